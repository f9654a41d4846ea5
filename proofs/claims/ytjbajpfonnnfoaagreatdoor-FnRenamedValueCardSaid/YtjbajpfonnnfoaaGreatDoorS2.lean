import Derived.Test.YtjbajpfonnnfoaaGreatDoorS1
import Derived.Laws.BytesString
set_option linter.unusedSimpArgs false
set_option linter.unusedVariables false
/- Operations: arithmetic, strings, structs, new lists. -/
namespace Go.Abs
open Go.RowKit
section ops
variable {P:Program} {w0:Bs} {G:Gh} {S:St} {a:Act} {w:World} {o:Oper} {K:Act->World->Prop} {Q:Exit->Act->World->Prop}
theorem Ye{op:BinOp}{T:TypeId}{x y:Operand}{d:D}{u v:Value}(a:Rep w G.S d u):(eqGuard op T x y u v).run P w=.ok () w:=by
 unfold eqGuard;cases a<;>(split<;>rfl)
theorem dh.repL{ds:List D}{vs:List Value}(h:dh G w (ds.map .d) vs):Ky w G.S ds vs:=by
 obtain⟨a,b⟩:=h.get;exact⟨by simpa using a,λi d v c hv=>b i (.d d) v (by simp[c]) hv⟩
theorem afd(h:Inv w0 G S a w){bo:BinOp}{T T':TypeId}{x y:Operand}(s:o.op=.binOp bo T x y T'){E:Env}(M:E.tt.ok P=true){ws:List W}(hv:(eff E o).val S=some ws)
  (u:∀a' w' G',Inv w0 G' (S.puts ws) a' w'->K a' w'):o.wp P a w K Q:=by
 unfold eff at hv;rw[s]at hv;simp only[Rd.aK,zB]at hv;obtain⟨av,N,av',O,hv⟩:=hv;have c:=aY h N;have f:=aY h O;split at hv
 ·rename_i cs cs';split at hv
  ·cases hv
  rename_i ks A;obtain⟨hk,B,fs,R⟩:=TT.ak7 M A;split at hv
  case h_2=>cases hv
  rename_i ds ds' C n;obtain⟨rfl,U⟩:=Jd C;obtain⟨rfl,V⟩:=Jd n;obtain⟨vs,i,F⟩:=c;obtain⟨us,j,H⟩:=f;have g:=Yd (P:=P) (w:=w) 9 9991 T ks ds ds' vs us hk U V F.repL H.repL;simp only[yZ,R]at g;have t:∀op,(eqGuard op T x y (.agg vs.toArray) (.agg us.toArray)).run P w=.ok () w:=λop=>run_eqGuard_agg w op T x y _ _ B
  split at hv
  ·simp only[Rd.val,zD]at hv;subst hv;refine aW (v:=.bool (Dc ds ds')) (w':=w) ?_ (u _ _ _ (h.dst (Rep.bool _)));unfold execOp;simp only[s,i,j,Sem.run_bind,t,Result.andThen_ok,run_eql_struct,g,Sem.run_pure]
  ·simp only[Rd.val,zD]at hv;subst hv;refine aW (v:=.bool (!(Dc ds ds'))) (w':=w) ?_ (u _ _ _ (h.dst (Rep.bool _)));unfold execOp;simp only[s,i,j,Sem.run_bind,t,Result.andThen_ok,run_neq_struct,g,Sem.run_pure]
  ·cases hv
 ·simp only[Rd.aK,zB]at hv;obtain⟨dx,X,dy,Y,hv⟩:=hv;have c:=qQ X c;have f:=qQ Y f;have t:(eqGuard bo T x y (a.eval x) (a.eval y)).run P w=.ok () w:=Ye c;have fin:∀ {z:D} {r:Value},(binOp bo T (a.eval x) (a.eval y)).run P w=.ok r w->Rep w G.S z r->ws=fQ o (.v (.one (.d z)))->o.wp P a w K Q:=by
   intro z r g hrep I;subst I;refine aW (v:=r) (w':=w) ?_ (u _ _ _ (h.dst (av:=.v (.one (.d z))) hrep));unfold execOp;simp only[s,Sem.run_bind,t,Result.andThen_ok,g,Sem.run_pure]
  generalize i:a.eval x=xv at c fin;generalize j:a.eval y=yv at f fin;split at hv
  ·split at hv
   case isFalse=>cases hv
   rename_i k;subst k;simp only[Rd.val,zB,zD]at hv;obtain⟨z,b,rfl⟩:=hv;cases c;cases f
   unfold quoI at b;split at b
   ·cases b
   ·rename_i l;cases b
    exact fin (by simp[binOp,Op.intDiv,l]) (Rep.int _ _) rfl
  ·split at hv
   case isFalse=>cases hv
   rename_i k;subst k;simp only[Rd.val,zB,zD]at hv;obtain⟨z,b,rfl⟩:=hv;cases c;cases f
   unfold Qr at b;split at b
   ·cases b
   ·rename_i l;cases b
    exact fin (by simp[binOp,Op.intDiv,l]) (Rep.int _ _) rfl
  ·simp only[Rd.val,zB,zD]at hv;obtain⟨z,b,rfl⟩:=hv;cases c;cases f
   unfold shlI at b;split at b
   ·cases b
   ·rename_i l;cases b
    exact fin (by simp[binOp,Op.shift,l]) (Rep.int _ _) rfl
  ·simp only[Rd.val,zB,zD]at hv;obtain⟨z,b,rfl⟩:=hv;cases c;cases f
   unfold shrI at b;split at b
   ·cases b
   ·rename_i l;cases b
    exact fin (by simp[binOp,Op.shift,l]) (Rep.int _ _) rfl
  ·simp only[Rd.val,zB,zD]at hv;obtain⟨_,m,rfl⟩:=hv;rename_i p q _;have J:List.length p+List.length q<=34359738368:=by
    unfold gd at m;split at m
    ·rename_i L;exact L
    ·cases m
   obtain⟨r,g,hrep⟩:=YP (P:=P) c f J T;exact fin g hrep rfl
  ·split at hv
   ·rename_i Z;simp only[Rd.val,zB,zD]at hv;obtain⟨z,b,rfl⟩:=hv;obtain⟨r,g,hrep⟩:=ags (P:=P) b c f T (λp q e _=>TT.aij M (Z (by rw[e];rfl)));exact fin g hrep rfl
   ·cases hv
theorem ahn(h:Inv w0 G S a w){uo:UnOp}{T:TypeId}{x:Operand}(d:o.op=.unOp uo T x){E:Env}{ws:List W}(hv:(eff E o).val S=some ws)
  (f:∀a' w' G',Inv w0 G' (S.puts ws) a' w'->K a' w'):o.wp P a w K Q:=by
 unfold eff at hv;rw[d]at hv;simp only[Rd.aK,zB]at hv;obtain⟨av,g,dx,i,hv⟩:=hv;have e:=qQ i (aY h g);generalize c:a.eval x=xv at e;split at hv
 ·rename_i b;split at hv
  ·simp only[Rd.val,zD]at hv;subst hv;cases e
   refine aW (v:=.bool (!b)) (w':=w) ?_ (f _ _ _ (h.dst (Rep.bool _)));unfold execOp;simp[d,c,Op.unary]
  ·cases hv
 ·rename_i k n;split at hv
  ·simp only[Rd.val,zD]at hv;subst hv;cases e
   refine aW (v:=.int k (k.wrap (0-n))) (w':=w) ?_ (f _ _ _ (h.dst (Rep.int _ _)));unfold execOp;simp[d,c,Op.unary,Op.intArith]
  ·cases hv
 ·cases hv
theorem Xi(h:Inv w0 G S a w){x:Operand}(c:o.op=.nilCheck x){E:Env}{ws:List W}(hv:(eff E o).val S=some ws)
  (e:∀a' w' G',Inv w0 G' (S.puts ws) a' w'->K a' w'):o.wp P a w K Q:=by
 unfold eff at hv;rw[c]at hv;simp only[Rd.aK,zB]at hv;obtain⟨av,f,hv⟩:=hv;have d:=aY h f;split at hv
 ·rename_i b off;simp only[Rd.val,zD]at hv;subst hv;refine aW (v:=a.eval x) (w':=w) ?_ (e _ _ _ (h.dst d));have:a.eval x=.pointer (some ⟨G.bk b,off,none⟩):=d.2;unfold execOp;simp[c,this]
 ·cases hv
theorem kX{c:Call}{b:Builtin}(d:o.op=.call c)(hc:c.callee=.builtin b){r:Value}{w':World}
  (e:(builtin b c.argTypes o.type (c.args.map λ| .const _=>true | _=>false) (c.args.map a.eval)).run P w=.ok (.value r) w') :
  (execOp a.eval o).run P w=.ok (.value r) w':=by
 unfold execOp;simp only[d,resolve,hc,Sem.run_bind,Sem.run_pure,Result.andThen_ok,invoke];exact e
theorem LQ{α:Type}{xs:Array α}{x:α}(h:xs.toList=[x]):xs = #[x]:=by
 cases xs;simp at h;rw[h]
theorem xK{α:Type}{xs:Array α}{x y:α}(h:xs.toList=[x,y]):xs = #[x,y]:=by
 cases xs;simp at h;rw[h]
theorem akK(h:Inv w0 G S a w){c:Call}(q:o.op=.call c)(g:c.callee=.builtin .len){E:Env}(z:E.tt.ok P=true){ws:List W}(hv:(eff E o).val S=some ws)
  (i:∀a' w' G',Inv w0 G' (S.puts ws) a' w'->K a' w'):o.wp P a w K Q:=by
 unfold eff at hv;rw[q]at hv;simp only[g]at hv;split at hv
 ·rename_i x T l r;have hargs:=LQ l;have htys:=LQ r;simp only[Rd.aK,zB]at hv;obtain⟨av,A,hv⟩:=hv;have f:=aY h A;have str:∀s:ByteArray,a.eval x=.string s->E.tt.strs.contains T=true->(execOp a.eval o).run P w=.ok (.value (.int .i64 s.size)) w:=by
   intro s d hc;refine kX q g ?_;simp[builtin,hargs,htys,d,Builtin.len_,run_underlying (TT.LW z hc),goInt]
  have sli:∀ad n cap,a.eval x=.slice ad n cap->(lk E.tt.elem T).isSome=true->(execOp a.eval o).run P w=.ok (.value (.int .i64 n)) w:=by
   intro ad n cap d hc;obtain⟨t,B⟩:=Option.isSome_iff_exists.1 hc;obtain⟨e,_,_,C,_⟩:=TT.jG z B;refine kX q g ?_;simp[builtin,hargs,htys,d,Builtin.len_,run_underlying C,goInt]
  have rep:∀(t:Ty) (xs:List t.den) v,Rep w G.S (.list t xs) v->a.eval x=v->(lk E.tt.elem T).isSome=true->(execOp a.eval o).run P w=.ok (.value (.int .i64 xs.length)) w:=by
   intro t xs v hrep hv hc;cases hrep with
   | nil=>exact sli _ _ _ hv hc
   | emp=>exact sli _ _ _ hv hc
   | list _ _ b off cap vs hcap _ _=>exact sli _ _ _ hv hc
  split at hv
  ·rename_i s;split at hv
   ·rename_i d;simp only[Rd.val,zD]at hv;subst hv;generalize u:a.eval x=xv at f;cases f with
    | str v=>exact aW (str v u d) (i _ _ _ (h.dst (by rw[oM];exact Rep.int _ _)))
   ·cases hv
  ·rename_i t xs;split at hv
   ·rename_i d;simp only[Rd.val,zD]at hv;subst hv;exact aW (rep t xs _ f rfl d) (i _ _ _ (h.dst (Rep.int _ _)))
   ·cases hv
  ·split at hv
   ·rename_i d;simp only[Rd.val,zD]at hv;subst hv;exact aW (sli _ _ _ f d) (i _ _ _ (h.dst (Rep.int _ _)))
   ·cases hv
  ·rename_i k j;split at hv
   ·rename_i d;simp only[Rd.val]at hv;split at hv
    ·rename_i t xs deep m hown;simp only[Rd.val,zD]at hv;subst hv;have p:=h.owns k j;rw[hown]at p;refine aW ?_ (i _ _ _ (h.dst (Rep.int _ _)));rcases p with ⟨y,D⟩ | ⟨b,cap,arr,e',vs,fps,y,_⟩
     ·subst D;exact sli _ _ _ (f.2.1.trans y) d
     ·exact sli _ _ _ (f.2.1.trans y) d
    ·rename_i t xs hown;simp only[Rd.val,zD]at hv;subst hv;exact aW (rep t xs _ (h.UM hown) f.2.1 d) (i _ _ _ (h.dst (Rep.int _ _)))
    ·rename_i t xs hown;simp only[Rd.val,zD]at hv;subst hv;have p:=h.aeS (k:=k) (j:=j) (t:=t) (xs:=xs) (deep:=true) (m:=true) (by rw[hown];rfl);refine aW (v:=.int .i64 xs.length) (w':=w) ?_ (i _ _ _ (h.dst (Rep.int _ _)));rcases p with ⟨l,rfl⟩ | ⟨b,cap,_,_,_,_,l,_⟩
     ·exact sli none 0 0 (by rw[f.2.1];exact l) d
     ·exact sli _ _ cap (by rw[f.2.1];exact l) d
    ·cases hv
   ·cases hv
  ·cases hv
 ·cases hv
end ops
theorem uU{α:Type}(cs:List α)(off:Nat)(vs:List α)(h:off+vs.length<=cs.length):(dO cs off vs).length=cs.length:=by
 simp[dO];omega
theorem Wn{α:Type}(cs:List α)(off:Nat)(v:α)(vs:List α)(h:off+(vs.length+1)<=cs.length):dO (cs.set off v) (off+1) vs=dO cs off (v::vs):=by
 apply List.ext_getElem?;intro i;simp only[dO,List.getElem?_append,amo,amn,amz,a8,bc,List.length_set,amr,List.getElem?_cons];have f:min (off+1) cs.length=off+1:=by omega
 have g:min off cs.length=off:=by omega
 rw[f,g];by_cases d:i<off
 ·have b:i<off+1:=by omega
  have c:i<off+1+vs.length:=by omega
  have a:i<off+(vs.length+1):=by omega
  have j:off≠i:=by omega
  simp[d,b,c,a,j]
 ·by_cases k:i=off
  ·subst k;have c:i<i+1+vs.length:=by omega
   have l:i<cs.length:=by omega
   simp[c,l]
  ·have b:¬i<off+1:=by omega
   by_cases e:i<off+1+vs.length
   ·have a:i<off+(vs.length+1):=by omega
    have m:i-off≠0:=by omega
    have n:i-off-1=i-(off+1):=by omega
    simp[d,b,e,a,m,n]
   ·have a:¬i<off+(vs.length+1):=by omega
    have o:off≠off+1+vs.length+(i-(off+1+vs.length)):=by omega
    simp only[e,a,o,if_false];congr 1;omega
theorem XZ:∀(vs:List Value) (k off:Nat) (cs:Array Value),off+k+vs.length<=cs.size ->
  (vs.zipIdx k).foldl (λ(cs:Array Value) (p:Value×Nat)=>cs.setIfInBounds (off+p.2) p.1) cs=(dO cs.toList (off+k) vs).toArray
 | [],k,off,cs,_=>by simp[dO]
 | v::vs,k,off,cs,h=>by
  simp only[List.zipIdx_cons,List.foldl_cons];rw[XZ vs (k+1) off _ (by simp at h ⊢;omega)];simp only[Array.toList_setIfInBounds];congr 1;exact Wn cs.toList (off+k) v vs (by simp at h ⊢;omega)
section ops
variable {P:Program} {w0:Bs} {G:Gh} {S:St} {a:Act} {w:World} {o:Oper} {K:Act->World->Prop} {Q:Exit->Act->World->Prop}
theorem RN(h:Inv w0 G S a w){c:Call}(i:o.op=.call c)(b:c.callee=.builtin .max\/c.callee=.builtin .min){E:Env}{ws:List W}(hv:(eff E o).val S=some ws)
  (l:∀a' w' G',Inv w0 G' (S.puts ws) a' w'->K a' w'):o.wp P a w K Q:=by
 unfold eff at hv;rw[i]at hv;rcases b with b | b
 all_goals
  simp only[b]at hv
  split at hv
  ·rename_i x y g;have hargs:=xK g;simp only[Rd.aK,zB]at hv;obtain⟨av,p,d,q,hv⟩:=hv;have j:=qQ q (aY h p);generalize e:a.eval x=xv at j;split at hv
   ·rename_i m;simp only[Rd.aK,zB]at hv;obtain⟨av',r,d',s,hv⟩:=hv;have k:=qQ s (aY h r);generalize f:a.eval y=yv at k;split at hv
    ·rename_i n;simp only[Rd.val,zD]at hv;subst hv;cases j
     cases k
     refine aW ?_ (l _ _ _ (h.dst (Rep.int _ _)));refine kX i b ?_;first
      | (have:=run_max_int2 (P:=P) w c.argTypes o.type .i64 .i64 m n
         simp[builtin,hargs,e,f,this];done)
      | (have:=run_min_int2 (P:=P) w c.argTypes o.type .i64 .i64 m n
         simp[builtin,hargs,e,f,this];done)
    ·cases hv
   ·cases hv
  ·cases hv
theorem PE:∀(ns:List Int) (s:ByteArray),(ns.foldl (λr n=>r.push (UInt8.ofNat n.toNat)) s).data.toList=s.data.toList++ns.map λn=>UInt8.ofNat n.toNat
 | [],s=>by simp
 | n::ns,s=>by
  rw[List.foldl_cons,PE ns];simp[ByteArray.push]
theorem acA{S0:Nat->Nat->Prop}{xs:List Int}{v:Value}(h:Rep w S0 (.list (.base .u8) xs) v):∃b:ByteArray,(Conv.bytesToString v).run P w=.ok (.string b) w/\b.data.toList=bytesOf xs:=by
 have some_:∀(ad:Addr) (cap:Nat),(loadCells ad xs.length).run P w=.ok (xs.map (Value.int .u8)).toArray w->∃b:ByteArray,(Conv.bytesToString (.slice (some ad) xs.length cap)).run P w=.ok (.string b) w/\b.data.toList=bytesOf xs:=by
  intro ad cap i;exact⟨_,run_bytesToString w ad xs.length cap xs i,by rw[PE];rfl⟩
 generalize a:D.list (.base .u8) xs=dd at h;cases h<;>cases a
 ·exact⟨ByteArray.empty,by simp[Conv.bytesToString],rfl⟩
 ·rename_i ad cap;exact some_ ad cap (run_loadCells_list (P:=P) w ad [] (by simp))
 ·rename_i b off cap vs hcap hc k;refine some_ _ cap ?_;have hlen:(xs.map (Value.int .u8)).length=xs.length:=by simp
  rw[<- hlen];refine run_loadCells_list (P:=P) w _ _ λj v c=>?_
  simp only[amh,ami]at c;obtain⟨x,d,rfl⟩:=c;have l:=hc j x 0 (.int .u8 x) d rfl;have f:=k j x 0 (.int .u8 x) d rfl;have e:vs j 0=.int .u8 x:=by
   generalize vs j 0=v at f;cases f
   rfl
  rw[addr_add];have g:=l.1;rw[e]at g;simpa [Ty.size,Base.size] using g
theorem ZF(h:Inv w0 G S a w){i T:TypeId}{x:Operand}(m:o.op=.convert i T x){E:Env}(f:E.tt.ok P=true){ws:List W}(hv:(eff E o).val S=some ws)
  (B:∀a' w' G',Inv w0 G' (S.puts ws) a' w'->K a' w'):o.wp P a w K Q:=by
 unfold eff at hv;rw[m]at hv;simp only[Rd.aK,zB]at hv;obtain⟨av,I,hv⟩:=hv;have C:=aY h I;split at hv
 ·rename_i k0 k p hk;have q:=TT.afF f hk;have r:=TT.afF f p;simp only[Rd.aK,zB,Rd.val,zD]at hv;obtain⟨n,s,rfl⟩:=hv;obtain⟨kk,J⟩:=xC s C;refine aW (v:=.int k (k.wrap n)) (w':=w) ?_ (B _ _ _ (h.dst (Rep.int _ _)));have hc:(convert i T (.int kk n)).run P w=.ok (.int k (k.wrap n)) w:=by
   simp[convert,run_underlying r,run_underlying q,Conv.intToInt]
  unfold execOp;simp[m,J,hc]
 ·split at hv
  case isFalse=>cases hv
  rename_i t;have q:=TT.LW f t.1;obtain⟨e,inf,z,g,hi,L,_,V,M,N⟩:=TT.jG f t.2;split at hv
  case h_2=>cases hv
  rename_i c;simp only[listOf,Rd.aK,zB,Rd.val,zD]at hv;obtain⟨xs,⟨d,s,xs',O,R⟩,rfl⟩:=hv;subst R;have U:=D.bD O;subst U;have hrep:=EC h s C (aO [c]) (λk j e=>by subst e;simp[aO]);obtain⟨b,F,u⟩:=acA (P:=P) hrep;refine aW (v:=.string b) (w':=w) ?_ (B _ _ _ (h.dst (by rw[<- u];exact Rep.str _)));have y:∃ad l cc,a.eval x=.slice ad l cc:=by
   generalize a.eval x=v at hrep;cases hrep<;>exact⟨_,_,_,rfl⟩
  obtain⟨ad,l,cc,H⟩:=y;rw[H]at F;have A:P.underlying e=some (.int .u8):=TT.alu f t.2 g;have hc:(convert i T (.slice ad l cc)).run P w=.ok (.string b) w:=by
   rw[run_convert_bytes_string w i T e ad l cc g A q];exact F
  unfold execOp;simp[m,H,hc]
theorem ae6(h:Inv w0 G S a w){T:TypeId}{x:Operand}{f:Nat}(c:o.op=.field T x f){E:Env}(r:E.tt.ok P=true){ws:List W}(hv:(eff E o).val S=some ws)
  (m:∀a' w' G',Inv w0 G' (S.puts ws) a' w'->K a' w'):o.wp P a w K Q:=by
 unfold eff at hv;rw[c]at hv;simp only at hv;split at hv
 ·cases hv
 rename_i fo agg n hf;obtain⟨F,fd,d,i,p,q,hoff,g,hi,s,j,hpos⟩:=TT.X8 r hf;simp only[Rd.aK,zB]at hv;obtain⟨av,t,hv⟩:=hv;have u:=aY h t;split at hv
 ·rename_i cs;simp only[Rd.val,zB]at hv;obtain⟨y,z,hv⟩:=hv;split at hv
  ·rename_i C;simp only[Rd.val,zD]at hv;subst hv;obtain⟨vs,b,hc⟩:=u;obtain⟨A,B⟩:=Ve z (hc.seg fo n);have hagg:(isAgg fd.type).run P w=.ok agg w:=by
    unfold isAgg;rw[Sem.run_bind,run_underlying g w,<- s];cases d<;>rfl
   cases agg with
   | true=>
    refine aW (v:=.agg (seg vs fo n).toArray) (w':=w) ?_ (m _ _ _ (h.dst (qX (A rfl))));unfold execOp;simp[c,b,Instr.field,run_underlying p,q,asAgg,part,hagg,sizeOf,typeInfo,hi,hoff,j,Abs.seg]
   | false=>
    obtain⟨v,k,l⟩:=B rfl;refine aW (v:=v) (w':=w) ?_ (m _ _ _ (h.dst (qX l)));have:vs[fo]?=some v:=by
     have e:(seg vs fo n)[0]?=some v:=by rw[k];rfl
     simp only[Abs.seg,amo,amn]at e;rw[if_pos hpos]at e;exact e
    unfold execOp;simp[c,b,Instr.field,run_underlying p,q,asAgg,part,hagg,hoff,this]
  ·cases hv
 ·cases hv
theorem X5{place:Nat->Option (Nat×Nat)}{i:Nat}{off n:Nat}{v:Value}{vs:List Value}{cells:Array Value}{rest:List (Nat×Value)}(hp:place i=some (off,n))(hv:v.cells=vs.toArray)
  (a:vs.length=n) (b:off+n<=cells.size):Instr.fill place cells ((i,v)::rest)=Instr.fill place (dO cells.toList off vs).toArray rest:=by
 have e:=XZ vs 0 off cells (by omega);simp only[Instr.fill,hp,hv];have c:¬(vs.toArray.size≠n\/off+vs.toArray.size>cells.size):=by simp[a];omega
 simp only[Bool.or_eq_true,decide_eq_true_eq,List.size_toArray]at *;rw[if_neg (by simp[a];omega)];congr 1;rw[<- Array.foldl_toList];simpa using e
theorem SG(h:Inv w0 G S a w){fs:List (Nat×Bool×Nat)}:∀ {parts:List (Nat×Operand)} {z cs:List C} {vs:List Value},(eff.fillA fs parts z).val S=some cs->dh G w z vs ->
  ∃us:List Value,dh G w cs us/\Instr.fill ((fs.map λx=>(x.1,x.2.2)).toArray[·]?) vs.toArray (parts.map λp=>(p.1,a.eval p.2))=some us.toArray
 | [],z,cs,vs,hv,c=>by
  simp only[eff.fillA,Rd.val,zD]at hv;subst hv;exact⟨vs,c,rfl⟩
 | (i,x)::r,z,cs,vs,hv,c=>by
  simp only[eff.fillA]at hv;split at hv
  ·cases hv
  rename_i fo agg n hf;simp only[Rd.aK,zB]at hv;obtain⟨av,e,x',f,hv⟩:=hv;split at hv
  ·rename_i m;have g:=yQ f (aY h e);obtain⟨us,d,b⟩:=g.TF;have o:=b.length;have j:=c.length;obtain⟨us',k,l⟩:=SG h hv (c.dO b fo);refine⟨us',k,?_⟩;rw[<- l];simp only[List.map_cons];rw[X5 (n:=n) (off:=fo) (by simp[hf]) d (by omega) (by simp;omega)]
  ·cases hv
theorem afb(h:Inv w0 G S a w){T:TypeId}{parts:Array (Nat×Operand)}(e:o.op=.build T parts){E:Env}(f:E.tt.ok P=true){ws:List W}(hv:(eff E o).val S=some ws)
  (g:∀a' w' G',Inv w0 G' (S.puts ws) a' w'->K a' w'):o.wp P a w K Q:=by
 unfold eff at hv;rw[e]at hv;simp only at hv;split at hv
 ·rename_i z fs j hf;obtain⟨i,zv,hi,b,k⟩:=TT.aaC f j;obtain⟨F,l,c⟩:=TT.adb f hf;simp only[Rd.aK,zB,Rd.val,zD]at hv;obtain⟨cs,m,rfl⟩:=hv;obtain⟨us,d,hfill⟩:=SG h m (lX (G:=G) (w:=w) _ _ k);refine aW (v:=.agg us.toArray) (w':=w) ?_ (g _ _ _ (h.dst (av:=.v (.agg cs)) ⟨us,rfl,d⟩));have n:P.built T (parts.map λ(i,x)=>(i,a.eval x)).toList=some us.toArray:=by
   unfold Program.built;simp only[hi,l,b,c];simpa using hfill
  have:=run_build (P:=P) w T _ _ n;unfold execOp;simp[e,this]
 ·cases hv
end ops
theorem iP{d:Nat}{os:List O}{S:St}{ws:List W}(h:(fresh d os).val S=some ws):S.aQ d=[]/\ws=[.o d os]:=by
 simp only[fresh,Rd.val]at h;split at h
 ·rename_i a;simp only[Rd.val,zD]at h;exact⟨a,h.symm⟩
 ·cases h
theorem fM(S:St)(a b:List W):S.puts (a++b)=(S.puts a).puts b:=by
 induction a generalizing S with
 | nil=>rfl
 | cons x r ih=>exact ih _
theorem gJ{q:Nat×Nat}{r:List (Nat×Nat)}(h:nodupB (q::r)=true):q∉r/\nodupB r=true:=by
 simp only[nodupB,zI,Bool.not_eq_true',List.any_eq_false,zI,beq_iff_eq,not_and]at h;refine⟨λa=>?_,h.2⟩;exact h.1 q a rfl rfl
section ops
variable {P:Program} {w0:Bs} {G:Gh} {S:St} {a:Act} {w:World}
structure More(G G':Gh)(A:Nat->Nat->Prop):Prop where
 ow:G'.ow=G.ow
 ov:G'.ov=G.ov
 bk:G'.bk=G.bk
 lk:G'.lk=G.lk
 lb:G'.lb=G.lb
 s:∀b o,G'.S b o↔(G.S b o\/A b o)
theorem More.mv{G':Gh}{A:Nat->Nat->Prop}(h:More G G' A)(w:World):Mv G G' w w:=
 ⟨λb o a=>⟨(h.s b o).2 (.inl a),rfl⟩,λk hk=>⟨by rw[h.lk];exact hk,λj=>by rw[h.ov]⟩,λi hi=>⟨by rw[h.lb];exact hi,by rw[h.bk]⟩⟩
theorem Inv.CU(h:Inv w0 G S a w)(k j:Nat):∃G',Inv w0 G' (S.put (.ro k j)) a w/\More G G' (AK G S [(k,j)]):=by
 let G':Gh:={ G with S:=λb o=>G.S b o\/AK G S [(k,j)] b o };have hmore:More G G' (AK G S [(k,j)]):=⟨rfl,rfl,rfl,rfl,rfl,λb o=>Iff.rfl⟩;have p:=hmore.mv w;have A:∀b o,AK G S [(k,j)] b o->G.ow b=some (.own k j):=by
  rintro b o ⟨k',j',t,xs,deep,m,hmem,_,l,_⟩;simp only[amd,Prod.mk.injEq]at hmem;rw[hmem.1,hmem.2]at l;exact l
 refine⟨G',⟨h.below,h.nodef,h.tsz,by simp[St.put,St.cO,h.bsz],by simp[St.put,St.cO,h.osz],λi v hv=>(h.tmps i v hv).move p,h.olt,?_,?_,?_,?_,h.lb,λb o c B=>c.elim (λc=>h.sfr b o c B) λc=>.inr (Bs.nwF (h.kY (A b o c)).1 B),h.Wh p,h.fx⟩,hmore⟩
 ·intro b o c;rcases c with c | c
  ·exact h.sok b o c
  ·have:=A b o c;exact⟨(h.olt _ _ this).2,λi e=>by rw[this]at e;cases e⟩
 ·intro i cs C;obtain⟨l,vs,E,hh,hc⟩:=h.box i cs C;exact⟨l,vs,E,hh,hc.move p⟩
 ·intro k' j';show xH G' w k' j' (bC ((S.cO k ((S.aQ k).set j (bC (S.aQ k) j).CU)).aQ k') j')
  rw[bK];have keep:(k',j')≠(k,j)->xH G' w k' j' (bC (S.aQ k') j'):=λr=>
   (h.owns k' j').same (G':=G') rfl p.s (λt xs deep m g=>⟨λb d=>⟨d,rfl⟩,λb len cap hv d o c=>by
    rcases c with c | c
    ·exact .inl c
    ·have D:=A b o c;have u:G.ow b=some (.own k' j'):=d;rw[D]at u;cases u
     exact absurd rfl r⟩) λt xs g b d=>⟨d,rfl,λo c=>by
    rcases c with c | c
    ·exact c
    ·have D:=A b o c;have u:G.ow b=some (.own k' j'):=d;rw[D]at u;cases u
     exact absurd rfl r⟩
  have turn:xH G' w k j (bC (S.aQ k) j).CU:=by
   have n:=h.owns k j;cases g:bC (S.aQ k) j with
   | dead=>trivial
   | ro t xs=>rw[g]at n;exact Rep.move n p.s
   | own t xs deep m=>exact h.KN g [(k,j)] (by simp)
   | tree t xs=>exact h.NH (by rw[g];rfl) [(k,j)] (by simp)
   | part t xs i=>
    rw[g]at n;refine iL.move n (λb d=>⟨d,rfl⟩) λb o d c=>?_
    rcases c with c | ⟨I,J,K,F,L,M,hmem,f,_⟩
    ·exact c
    ·simp only[amd,Prod.mk.injEq]at hmem;rw[hmem.1,hmem.2,g]at f;cases f
   | seg t xs=>rw[g]at n;exact Kv.move n p.s λb d=>⟨d,rfl⟩
   | hole t xs i q=>
    rw[g]at n;obtain⟨fp,N,O,P⟩:=n;refine⟨fp,N,O,λb o c=>?_⟩;rcases c with c | ⟨I,J,K,F,L,M,hmem,f,_⟩
    ·exact P b o c
    ·simp only[amd,Prod.mk.injEq]at hmem;rw[hmem.1,hmem.2,g]at f;cases f
  by_cases hk:k=k'/\k<S.owns.length
  ·rw[if_pos hk,iV];obtain⟨rfl,Q⟩:=hk;by_cases H:j=j'/\j<(S.aQ k).length
   ·rw[if_pos H];obtain⟨rfl,_⟩:=H;exact turn
   ·rw[if_neg H];by_cases x:j=j'
    ·subst x;have:bC (S.aQ k) j=.dead:=by
      simp only[bC,zE];rw[zJ (by omega)];rfl
     rw[this];trivial
    ·exact keep (by simp[Ne.symm x])
  ·rw[if_neg hk];by_cases y:(k',j')=(k,j)
   ·cases y
    have R:S.aQ k=[]:=by
     have:¬k<S.owns.length:=λB=>hk ⟨rfl,B⟩
     simp only[St.aQ,zE];rw[zJ (by omega)];rfl
    rw[R];trivial
   ·exact keep y
 ·intro k' z;show (S.cO k ((S.aQ k).set j (bC (S.aQ k) j).CU)).aQ k'≠[]
  rw[bK];split
  ·rename_i hk;intro e;have:(S.aQ k).length=0:=by simpa using congrArg List.length e
   exact h.lk k' z (by rw[<- hk.1];exact amB this)
  ·exact h.lk k' z
theorem Ju(S:St)(k j k' j':Nat):bC ((S.put (.ro k j)).aQ k') j'=if (k,j)=(k',j')then (bC (S.aQ k') j').CU else bC (S.aQ k') j':=by
 show bC ((S.cO k ((S.aQ k).set j (bC (S.aQ k) j).CU)).aQ k') j'=_
 rw[bK];by_cases hk:k=k'/\k<S.owns.length
 ·rw[if_pos hk,iV];obtain⟨rfl,_⟩:=hk;by_cases a:j=j'
  ·subst a;simp only[true_and,if_true];split
   ·rfl
   ·have:bC (S.aQ k) j=.dead:=by
     simp only[bC,zE];rw[zJ (by omega)];rfl
    rw[this];rfl
  ·have:¬((k,j)=(k,j')):=by simp[a]
   rw[if_neg (λe=>a e.1),if_neg this]
 ·rw[if_neg hk];split
  ·rename_i e;cases e
   have b:S.aQ k=[]:=by
    have:¬k<S.owns.length:=λc=>hk ⟨rfl,c⟩
    simp only[St.aQ,zE];rw[zJ (by omega)];rfl
   rw[b];rfl
  ·rfl
theorem Kr{S:St}{k j d:Nat}(h:S.aQ d=[]):(S.put (.ro k j)).aQ d=[]:=by
 show (S.cO k ((S.aQ k).set j (bC (S.aQ k) j).CU)).aQ d=[]
 rw[bK];split
 ·rename_i hk;rw[hk.1,h];rfl
 ·exact h
theorem Inv.V9:∀(keys:List (Nat×Nat)) {G:Gh} {S:St},Inv w0 G S a w->nodupB keys=true ->
  ∃G',Inv w0 G' (S.puts (keys.map λq=>.ro q.1 q.2)) a w/\More G G' (AK G S keys) /\
   (∀k j,bC ((S.puts (keys.map λq=>.ro q.1 q.2)).aQ k) j=if (k,j)∈keys then (bC (S.aQ k) j).CU else bC (S.aQ k) j) /\
   (∀d,S.aQ d=[]->(S.puts (keys.map λq=>.ro q.1 q.2)).aQ d=[])
 | [],G,S,h,_=>⟨G,h,⟨rfl,rfl,rfl,rfl,rfl,λb o=>⟨.inl,λhh=>hh.elim id λ⟨_,_,_,_,_,_,c,_⟩=>by cases c⟩⟩,λk j=>by simp[St.puts],λd u=>u⟩
 | (k,j)::r,G,S,h,z=>by
  obtain⟨y,v⟩:=gJ z;obtain⟨F,A,f⟩:=h.CU k j;obtain⟨B,C,n,D,E⟩:=Inv.V9 r A v;have hput:∀k' j',(k',j')∈r->bC ((S.put (.ro k j)).aQ k') j'=bC (S.aQ k') j':=λk' j' c=>by
   rw[Ju,if_neg λe:(k,j)=(k',j')=>y (e▸c)]
  refine⟨B,C,⟨n.ow.trans f.ow,n.ov.trans f.ov,n.bk.trans f.bk,n.lk.trans f.lk,n.lb.trans f.lb,λb o=>?_⟩,λk' j'=>?_,λd u=>E d (Kr u)⟩
  ·rw[n.s,f.s];constructor
   ·rintro ((x | ⟨k',j',t,xs,deep,m,c,l⟩) | ⟨k',j',t,xs,deep,m,c,l,g,i⟩)
    ·exact .inl x
    ·simp only[amd]at c;exact .inr ⟨k',j',t,xs,deep,m,by rw[c];exact aw,l⟩
    ·rw[hput k' j' c]at l;exact .inr ⟨k',j',t,xs,deep,m,ar _ c,l,by rw[<- f.ow];exact g,by rw[<- f.ov];exact i⟩
   ·rintro (x | ⟨k',j',t,xs,deep,m,c,l,g,i⟩)
    ·exact .inl (.inl x)
    ·rcases bh.1 c with c | c
     ·exact .inl (.inr ⟨k',j',t,xs,deep,m,by simp[c],l,g,i⟩)
     ·exact .inr ⟨k',j',t,xs,deep,m,c,by rw[hput k' j' c];exact l,by rw[f.ow];exact g,by rw[f.ov];exact i⟩
  ·show bC (((S.put (.ro k j)).puts (r.map λq=>.ro q.1 q.2)).aQ k') j'=_
   rw[D,Ju];by_cases c:(k',j')∈r
   ·have:¬((k,j)=(k',j')):=λe=>y (e▸c)
    rw[if_pos c,if_neg this,if_pos (ar _ c)]
   ·rw[if_neg c];by_cases p:(k,j)=(k',j')
    ·rw[if_pos p,if_pos (by rw[p];exact aw)]
    ·rw[if_neg p,if_neg λe=>(bh.1 e).elim (λe=>p e.symm) c]
def rowsOf(G:Gh)(S:St)(c:C)(b:Nat):Prop:=∃k j,c=.own k j/\G.ow b=some (.own k j)/\∃t xs deep m,(bC (S.aQ k) j).sZ=.own t xs deep m
theorem yO:∀ {cs:List C} {dp:Bool},(vK cs).val S=some dp->∀(i:Nat) (c:C),cs[i]?=some c->∃b,(Dq c).val S=some b/\(dp=true->b=true)
 | [],dp,_,i,c,hc=>by simp at hc
 | c0::cs,dp,hv,i,c,hc=>by
  simp only[vK,Rd.aK,zB,Rd.val,zD]at hv;obtain⟨b,a,b',d,rfl⟩:=hv;cases i with
  | zero=>simp at hc;subst hc;exact⟨b,a,λe=>(zI _ _▸e).1⟩
  | succ i=>
   obtain⟨b'',f,g⟩:=yO d i c (by simpa using hc);exact⟨b'',f,λe=>g (zI _ _▸e).2⟩
theorem VO(h:Inv w0 G S a w){ty:Option Ty}{c:C}{d:D}{v:Value}{b dp:Bool}(f:(cD ty c).val S=some d)(hc:mV G w c v)(g:(Dq c).val S=some b)(q:dp=true->b=true)
  {S':Nat->Nat->Prop} {keys:List (Nat×Nat)} (r:∀x o,(G.S x o\/AK G S keys x o)->S' x o) (hk:∀k j,c=.own k j->(k,j)∈keys):Ow w S' dp d v (rowsOf G S c):=by
 cases dp with
 | false=>exact .ro d v _ rfl ((EC h f hc keys hk).move λx o l=>⟨r x o l,rfl⟩)
 | true=>
  have u:=q rfl;subst u;cases c with
  | undef=>cases f
  | d x=>
   simp only[cD,Rd.val,zD]at f;subst f;cases x with
   | list t xs=>simp[Dq,Rd.val]at g
   | int k n=>cases hc;exact .int k n _
   | bool p=>cases hc;exact .bool p _
   | str s=>cases hc;exact .str _ _
  | nil=>
   simp only[cD]at f;split at f
   ·simp only[Rd.val,zD]at f;subst f;rw[show v=_ from hc];exact .nil _ _
   ·cases f
  | own k j=>
   simp only[cD,Rd.val]at f;simp only[Dq,Rd.val]at g;rw[hc.2.1];have z:=h.owns k j;split at f
   ·rename_i t xs deep m i;rw[i]at g z;simp only[Rd.val,zD]at f g;subst f;subst g;have:=OwT.ow z;refine (this.move (λx o l=>⟨r x o (.inl l),rfl⟩) λ_ _=>rfl).sub (λx y=>⟨k,j,rfl,y,t,xs,true,m,by rw[i];rfl⟩) λe=>e
   ·rename_i t xs i;rw[i]at g;simp[Rd.val]at g
   ·rename_i t xs i;simp only[Rd.val,zD]at f;subst f;have:=OwT.ow (h.aeS (k:=k) (j:=j) (t:=t) (xs:=xs) (deep:=true) (m:=true) (by rw[i];rfl));refine (this.move (λx o l=>⟨r x o (.inl l),rfl⟩) λ_ _=>rfl).sub (λx y=>⟨k,j,rfl,y,t,xs,true,true,by rw[i];rfl⟩) λe=>e
   ·cases f
   ·cases f
   ·cases f
   ·cases f
  | ptr b off=>cases f
end ops
theorem flat_get{α β:Type}(f:α->List β)(n:Nat):∀(xs:List α),(∀x∈xs,(f x).length=n)->∀(i j:Nat) (x:α),xs[i]?=some x->j<n->(xs.flatMap f)[i*n+j]?=(f x)[j]?
 | [],_,i,j,x,h,_=>by simp at h
 | c::xs,a,i,j,x,h,d=>by
  have b:=a c aw;cases i with
  | zero=>
   simp at h;subst h;simp only[List.flatMap_cons,Nat.zero_mul,amw];rw[amE (by omega)]
  | succ i=>
   have ih:=flat_get f n xs (λy e=>a y (ar _ e)) i j x (by simpa using h) d;rw[<- ih];simp only[List.flatMap_cons];rw[amD (by rw[b,Nat.succ_mul];omega)];congr 1;rw[b,Nat.succ_mul];omega
theorem flat_length{α β:Type}(f:α->List β)(n:Nat):∀(xs:List α),(∀x∈xs,(f x).length=n)->(xs.flatMap f).length=xs.length*n
 | [],_=>by simp
 | b::xs,a=>by
  rw[List.flatMap_cons,a8,a b aw,flat_length f n xs λy c=>a y (ar _ c),amr,Nat.succ_mul];omega
theorem jk:∀ {cs:List C},nodupB (aO cs)=true->∀ {p q k j:Nat},cs[p]?=some (.own k j)->cs[q]?=some (.own k j)->p=q
 | [],_,p,q,k,j,hp,_=>by simp at hp
 | c::cs,d,p,q,k,j,hp,b=>by
  have a:nodupB (aO cs)=true/\∀k j,c=.own k j->(k,j)∉aO cs:=by
   cases c<;>simp only[aO]at d<;>first
    | exact⟨d,λ_ _ e=>by cases e⟩
    | (obtain⟨f,g⟩:=gJ d;exact⟨g,λ_ _ e=>by cases e;exact f⟩)
  cases p with
  | zero=>
   simp at hp;cases q with
   | zero=>rfl
   | succ q=>simp at b;exact absurd (fE (zG b)) (a.2 k j hp)
  | succ p=>
   simp at hp;cases q with
   | zero=>simp at b;exact absurd (fE (zG hp)) (a.2 k j b)
   | succ q=>simp at b;rw[jk a.1 hp b]
theorem Ri{i j i' j' n:Nat}(b:j<n)(a:j'<n)(h:i*n+j=i'*n+j'):i=i'/\j=j':=by
 have c:i=i':=by
  have d:(i*n+j) / n=i:=by rw[Nat.mul_comm,Nat.mul_add_div (by omega),Nat.div_eq_of_lt b];omega
  have e:(i'*n+j') / n=i':=by rw[Nat.mul_comm,Nat.mul_add_div (by omega),Nat.div_eq_of_lt a];omega
  rw[<- d,<- e,h]
 subst c;omega
section ops
variable {P:Program} {w0:Bs} {G:Gh} {S:St} {a:Act} {w:World} {o:Oper} {K:Act->World->Prop} {Q:Exit->Act->World->Prop}
theorem Inv.KU(h:Inv w0 G S a w)(d:Nat){t:Ty}{xs:List t.den}{deep m:Bool}{v:Value}(lab:Nat->Prop)(p:S.aQ d=[])
  (hlab:∀c,lab c->w0.nw c/\c<w.heap.size/\(∀i,G.ow c≠some (.box i))/\∀k' j' t xs deep m,G.ow c=some (.own k' j')->(bC (S.aQ k') j').fU≠.own t xs deep m)
  (f:OwT w G.S deep m t xs v lab) :
  ∃G',Inv w0 G' ((S.cO d [.own t xs deep m]).jh d (.v (.one (.own d 0)))) (a.put (some d) v) w:=by
 by_cases e:d<S.tmps.length
 case neg=>
  refine⟨G,?_⟩
  rw[FB h.tsz e,zL (by rw[h.osz];exact e),zK e]
  exact h
 classical
 obtain⟨G',q,s,g,k⟩:=h.Vd d [.own t xs deep m] (λ_=>v) (λc=>if lab c then some 0 else none) p e (by simp)
  (λc j hc=>by
   by_cases n:lab c
   ·exact hlab c n
   ·rw[if_neg n]at hc;cases hc)
  (λj=>by
   cases j with
   | zero=>
    show OwT w G.S deep m t xs v _
    exact OwT.move f (λb o l=>⟨l,rfl⟩) (λb r=>⟨if_pos r,rfl⟩) (λ_ _ _ _ _ o l=>.inl l)
   | succ j=>trivial)
 exact⟨G',q.jh d (av:=.v (.one (.own d 0))) ⟨g,(k 0).symm,(OwT.ow f).one⟩⟩
theorem Lu{t:Ty}:∀ {vs:List V} {xs:List t.den},(abP t vs).val S=some xs->xs.length=vs.length/\(∀v∈vs,v.cells.length=t.size) /\
  ∀(i:Nat) (x:t.den),xs[i]?=some x->∃v,vs[i]?=some v/\∀(j:Nat) (d:D),(t.cells x)[j]?=some d->∃c ty,v.cells[j]?=some c/\(cD ty c).val S=some d
 | [],xs,h=>by
  simp only[abP,Rd.val,zD]at h;subst h;exact⟨rfl,λv hv=>(by cases hv),λi x l=>(by simp at l)⟩
 | v::vs,xs,h=>by
  simp only[abP,Rd.aK,zB,Rd.val,zD]at h;obtain⟨x,b,xs',m,rfl⟩:=h;obtain⟨n,hc,o⟩:=Lu m;simp only[vEl]at b;split at b
  ·rename_i e;simp only[Rd.aK,zB,Rd.val,zD]at b;obtain⟨ds,p,y,q,r⟩:=b;subst r;refine⟨by simp[n],λu f=>?_,λi z g=>?_⟩
   ·rcases bh.1 f with rfl | f
    ·exact e
    ·exact hc u f
   ·cases i with
    | zero=>
     simp at g;subst g;refine⟨v,rfl,λj d a=>?_⟩;rw[Ty.eH q]at a;have key:∀(tys:List (Option Ty)) (cs:List C) (ds:List D),(cDs tys cs).val S=some ds->∀(j:Nat) (d:D),ds[j]?=some d->∃c ty,cs[j]?=some c/\(cD ty c).val S=some d:=by
      intro tys;induction tys with
      | nil=>intro cs ds hh j d a;simp only[cDs,Rd.val,zD]at hh;subst hh;simp at a
      | cons ty tys ih=>
       intro cs ds hh j d a;cases cs with
       | nil=>simp only[cDs,Rd.val,zD]at hh;subst hh;simp at a
       | cons c cs=>
        simp only[cDs,Rd.aK,zB,Rd.val,zD]at hh;obtain⟨A,s,k,w,rfl⟩:=hh;cases j with
        | zero=>simp at a;subst a;exact⟨c,ty,rfl,s⟩
        | succ j=>exact ih cs k w j d (by simpa using a)
     exact key _ _ _ p j d a
    | succ i=>exact o i z (by simpa using g)
  ·cases b
theorem adf(h:Inv w0 G S a w){t:Ty}{vs:List V}{xs:List t.den}(z:(abP t vs).val S=some xs){vals:List Value}(hc:dh G w (vs.flatMap V.cells) vals)
  {dp:Bool} (l:(vK (vs.flatMap V.cells)).val S=some dp) {S':Nat->Nat->Prop} (A:∀x o,(G.S x o\/AK G S (aO (vs.flatMap V.cells)) x o)->S' x o) :
  ∀(i:Nat) (x:t.den) (j:Nat) (d:D),xs[i]?=some x->(t.cells x)[j]?=some d ->
   ∃c v,(vs.flatMap V.cells)[i*t.size+j]?=some c/\vals[i*t.size+j]?=some v/\Ow w S' dp d v (rowsOf G S c):=by
 intro i x j d m y;obtain⟨E,n,B⟩:=Lu z;obtain⟨v,hv,hcell⟩:=B i x m;obtain⟨c,ty,p,q⟩:=hcell j d y;have C:j<t.size:=by
  have:=(zC.1 y).1;rwa [Ty.bn]at this
 have f:(vs.flatMap V.cells)[i*t.size+j]?=some c:=by rw[flat_get V.cells t.size vs n i j v hv C];exact p
 obtain⟨hlen,hrep⟩:=hc.get;have g:i*t.size+j<vals.length:=by have:=(zC.1 f).1;omega
 have r:=hrep _ c vals[i*t.size+j] f (by simp[g]);obtain⟨b,s,u⟩:=yO l _ c f;exact⟨c,vals[i*t.size+j],f,by simp[g],VO h q r s u A λk j' e=>fE (e▸zG f)⟩
theorem NE(h:Inv w0 G S a w)(sz:Nat):∀ {parts:List (Nat×Operand)} {k:Nat} {vs:List V} {arr:Array Value},(NF parts k).val S=some vs->(∀v∈vs,v.cells.length=sz)->(k+vs.length)*sz<=arr.size ->
  ∃vals:List Value,dh G w (vs.flatMap V.cells) vals/\Instr.fill (λi=>some (i*sz,sz)) arr (parts.map λp=>(p.1,a.eval p.2))=some (dO arr.toList (k*sz) vals).toArray
 | [],k,vs,arr,hv,_,_=>by
  simp only[NF,Rd.val,zD]at hv;subst hv;exact⟨[],trivial,by simp[Instr.fill,dO]⟩
 | (i,x)::r,k,vs,arr,hv,g,l=>by
  simp only[NF]at hv;split at hv
  ·rename_i m;subst m;simp only[Rd.aK,zB,Rd.val,zD]at hv;obtain⟨av,B,v,C,vs',D,rfl⟩:=hv;have E:=yQ C (aY h B);obtain⟨us,o,j⟩:=E.TF;have F:=g v aw;have H:=j.length;have q:i*sz+sz<=arr.size:=by
    have:(i+1)*sz<=arr.size:=amq (Nat.mul_le_mul_right _ (by simp)) l;rwa [Nat.succ_mul]at this
   obtain⟨vals,I,J⟩:=NE h sz (arr:=(dO arr.toList (i*sz) us).toArray) D (λu b=>g u (ar _ b))
    (by
     have e:=uU arr.toList (i*sz) us (by simp;omega);have K:i+1+vs'.length=i+(vs'.length+1):=by omega
     simp only[amr]at l;rw[K];show _<=(dO arr.toList (i*sz) us).length
     rw[e];exact l)
   refine⟨us++vals,?_,?_⟩
   ·simp only[List.flatMap_cons];obtain⟨z,L⟩:=j.get;obtain⟨M,N⟩:=I.get;refine dh.mk (by simp only[a8,z,M]) λp c u hc b=>?_
    rw[List.getElem?_append]at hc b;split at hc
    ·rename_i hp;rw[if_pos (by omega)]at b;exact L p c u hc b
    ·rename_i hp;rw[if_neg (by omega)]at b;rw[z]at hc;exact N _ c u hc b
   ·simp only[List.map_cons];rw[X5 (n:=sz) (off:=i*sz) rfl o (by omega) q,J];congr 1;simp only[dO];have e:(i+1)*sz=i*sz+sz:=Nat.succ_mul _ _;rw[e];have s:us.length=sz:=by omega
    congr 1;apply List.ext_getElem?;intro p;simp only[List.getElem?_append,amo,amn,a8,bc,Array.length_toList,s];have O:min (i*sz) arr.size=i*sz:=by omega
    have P:min (i*sz+sz) (i*sz+sz+(arr.size-(i*sz+sz)))=i*sz+sz:=by omega
    simp only[O,amx,Array.length_toList,P];by_cases t:p<i*sz
    ·have:p<i*sz+sz:=by omega
     have f:p<i*sz+sz+vals.length:=by omega
     have d:p<i*sz+(sz+vals.length):=by omega
     simp[t,this,f,d]
    ·by_cases A:p<i*sz+sz
     ·have f:p<i*sz+sz+vals.length:=by omega
      have d:p<i*sz+(sz+vals.length):=by omega
      have y:p-i*sz<sz:=by omega
      simp[t,A,f,d,y]
     ·by_cases f:p<i*sz+sz+vals.length
      ·have d:p<i*sz+(sz+vals.length):=by omega
       have y:¬p-i*sz<sz:=by omega
       have Q:p-(i*sz+sz)=p-i*sz-sz:=by omega
       simp[t,A,f,d,y,Q]
      ·have d:¬p<i*sz+(sz+vals.length):=by omega
       have R:¬(i*sz+sz+vals.length+(p-(i*sz+sz+vals.length))<i*sz):=by omega
       have T:¬(i*sz+sz+vals.length+(p-(i*sz+sz+vals.length))<i*sz+sz):=by omega
       simp only[f,d,R,T,if_false];congr 1;omega
  ·cases hv
theorem Qw(h:Inv w0 G S a w){T:TypeId}{n:Nat}{parts:Array (Nat×Operand)}(ho:o.op=.buildSlice T n parts){E:Env}(hT:E.tt.ok P=true){ws:List W}(hv:(eff E o).val S=some ws)
  (hK:∀a' w' G',Inv w0 G' (S.puts ws) a' w'->K a' w'):o.wp P a w K Q:=by
 unfold eff at hv;rw[ho]at hv;simp only at hv;split at hv
 ·rename_i d t hd ht;obtain⟨e,inf,z,hu,hi,u,hby,hz,hzs,hzm⟩:=TT.jG hT ht;simp only[Rd.aK,zB]at hv;obtain⟨vs,h1,hv⟩:=hv;split at hv
  ·rename_i F;simp only[Rd.aK,zB]at hv;obtain⟨xs,h2,dp,h3,hv⟩:=hv;split at hv
   ·rename_i I;simp only[Rd.aK,zB,Rd.val,zD]at hv;obtain⟨ws',h4,rfl⟩:=hv;obtain⟨X,rfl⟩:=iP h4;obtain⟨J,hvsz,_⟩:=Lu h2;let arr0:Array Value:=(Array.range (n*t.size)).map (λm=>(if n*t.size=0 then (#[]:Array Value)else z.cells)[m % (if n*t.size=0 then (#[]:Array Value)else z.cells).size]!);have harr0:arr0.size=n*t.size:=by simp[arr0]
    obtain⟨vals,hvals,hfill⟩:=NE h t.size (arr:=arr0) h1 hvsz (by rw[amw,F.1,harr0];exact aD _);have L:vals.length=n*t.size:=by rw[<- hvals.length,flat_length V.cells t.size vs hvsz,F.1]
    have hset:dO arr0.toList (0*t.size) vals=vals:=by
     simp[dO,L,harr0]
    rw[hset]at hfill;obtain⟨Y,Z,M,e5,n5⟩:=Inv.V9 (aO (vs.flatMap V.cells)) h I;have hbel:Below w.heap.size w (w.alloc (.cells vals.toArray e)):=(Below.refl _ _).alloc (aD _) _;have h6:=Z.grow hbel;have hnew:=heap_alloc_new w (.cells vals.toArray e);have hO:OwT (w.alloc (.cells vals.toArray e)) Y.S dp true t xs (.slice (some ⟨w.heap.size,0,none⟩) n n)
      (λc=>c=w.heap.size\/∃(p:Nat) (cc:C),(vs.flatMap V.cells)[p]?=some cc/\rowsOf G S cc c):=by
     have N:=adf h h2 hvals h3 (S':=Y.S) λx o H=>(M.s x o).2 H
     refine .inr ⟨w.heap.size,n,vals.toArray,e,λi j=>vals.getD (i*t.size+j) undef,
      λi j c=>j<t.size/\i<xs.length/\∃cc:C,(vs.flatMap V.cells)[i*t.size+j]?=some cc/\rowsOf G S cc c,?_,hnew,?_,?_,?_,.inl rfl,?_,?_,?_,?_,?_⟩
     ·rw[J,F.1]
     ·rw[J,F.1];exact aD _
     ·have:=F.2;have hp:=t.size_pos;have:n<=n*t.size:=Nat.le_mul_of_pos_right _ hp;unfold maxLen;omega
     ·simp[L]
     ·intro i x j dd y A;obtain⟨c,v,_,hv,_⟩:=N i x j dd y A;simp only[List.getElem?_toArray,zE,hv,Option.getD_some]
     ·intro i x j dd y A;obtain⟨c,v,hc,hv,hw⟩:=N i x j dd y A;have hj:j<t.size:=by
       have:=(zC.1 A).1;rwa [Ty.bn]at this
      simp only[zE,hv,Option.getD_some];refine (hw.move (S':=Y.S) (λx o H=>⟨H,hbel.cell (p:=⟨x,o,none⟩) (Z.sok x o H).1⟩) λc' D=>?_).sub (λc' D=>⟨hj,(zC.1 y).1,c,hc,D⟩) λe=>e
      obtain⟨k,jj,_,b,_⟩:=D;exact hbel.block _ (h.olt _ _ b).2
     ·rintro i j c ⟨_,_,cc,q,hrow⟩;refine⟨.inr ⟨_,cc,q,hrow⟩,?_⟩;obtain⟨k,jj,_,b,_⟩:=hrow;have:=(h.olt _ _ b).2;omega
     ·rintro i j i' j' c ⟨hj,hi',cc,q,k,l,rfl,b,_⟩ ⟨hj',_,cc',R,k',l',rfl,B,_⟩;rw[b]at B;cases B
      exact Ri hj hj' (jk I q R)
     ·intro oo H;exact absurd (Z.sok _ oo H).1 (Nat.lt_irrefl _)
    obtain⟨G2,h7⟩:=h6.KU d (v:=.slice (some ⟨w.heap.size,0,none⟩) n n) (λc=>c=w.heap.size\/∃(p:Nat) (cc:C),(vs.flatMap V.cells)[p]?=some cc/\rowsOf G S cc c) (n5 d X) (λc hc=>by
     rcases hc with rfl | ⟨p,cc,q,k,jj,rfl,b,t',xs',deep',m',hown⟩
     ·refine⟨.inl h.below.size,by simp,λi r=>?_,λk' j' _ _ _ _ r=>?_⟩
      ·rw[M.ow]at r;exact absurd (h.olt _ _ r).2 (Nat.lt_irrefl _)
      ·rw[M.ow]at r;exact absurd (h.olt _ _ r).2 (Nat.lt_irrefl _)
     ·have hlt:=h.kY b;refine⟨hlt.1,by simp;omega,λi r=>?_,λk' j' t2 xs2 d2 m2 r=>?_⟩
      ·rw[M.ow,b]at r;cases r
      ·rw[M.ow,b]at r;cases r
       rw[e5,if_pos (fE (zG q))];exact O.LP hown _ _ _ _) hO
    refine aW (v:=.slice (some ⟨w.heap.size,0,none⟩) n n) (w':=w.alloc (.cells vals.toArray e)) ?_ (hK _ _ G2 ?_)
    ·have g:Instr.fill (λi=>some (i*inf.size,inf.size)) arr0 (parts.toList.map λp=>(p.1,a.eval p.2))=some vals.toArray:=by rw[u];exact hfill
     unfold execOp;simp only[ho,Instr.buildSlice,Sem.run_bind,run_underlying hu,Result.andThen_ok,sizeOf,typeInfo,run_program,hi,Sem.run_pure,u];have hle:¬n*t.size>2 ^ 24:=by have:=F.2;omega
     simp only[hle,if_false];have e0:∀f:Nat->Value,Array.map f (Array.range 0) = #[]:=λf=>Array.eq_empty_of_size_eq_zero (by simp)
     by_cases U:n*t.size=0
     ·simp only[U,if_true];simp only[arr0,U,if_true,e0]at g;rw[u]at g;simp[g,newRow,e0]
     ·simp only[U,if_false,Sem.run_bind,zeroValue,typeInfo,run_program,Result.andThen_ok,hi,Sem.run_pure,hz];simp only[arr0,U,if_false]at g;rw[u]at g;simp[g,newRow]
    ·rw[hd,fM,fM];exact h7
   ·cases hv
  ·cases hv
 ·cases hv
end ops
theorem Q7{w:World}{S:Nat->Nat->Prop}{dp:Bool}{fp:Nat->Prop}:∀(ds:List D) (vs:List Value),lu (ds.map .d) vs=true->∀(j:Nat) (d:D) (v:Value),ds[j]?=some d->vs[j]?=some v->Ow w S dp d v fp
 | [],vs,_,j,d,v,f,_=>by simp at f
 | i::ds,[],h,j,d,v,_,hv=>by simp at hv
 | i::ds,l::vs,h,j,d,v,f,hv=>by
  have key:Ow w S dp i l fp/\lu (ds.map .d) vs=true:=by
   simp only[List.map_cons]at h;unfold lu at h;split at h
   ·simp_all
   ·rename_i k n cs' k' n' vs' a c;cases c
    injection a with a e;injection a with a;subst a;subst e;simp only[zI,decide_eq_true_eq]at h;obtain⟨⟨rfl,rfl⟩,g⟩:=h;exact⟨.int _ _ _,g⟩
   ·rename_i b cs' b' vs' a c;cases c
    injection a with a e;injection a with a;subst a;subst e;simp only[zI,beq_iff_eq]at h;obtain⟨rfl,g⟩:=h;exact⟨.bool _ _,g⟩
   ·rename_i s cs' v' vs' a c;cases c
    injection a with a e;injection a with a;subst a;subst e;simp only[zI,decide_eq_true_eq]at h;obtain⟨rfl,g⟩:=h;exact⟨.str _ _,g⟩
   ·rename_i cs' vs' a c;injection a with a e;cases a
   ·rename_i t cs' vs' a c;cases c
    injection a with a e;injection a with a;subst a;subst e;exact⟨.nil _ _,h⟩
   ·cases h
  cases j with
  | zero=>simp at f hv;subst f;subst hv;exact key.1
  | succ j=>exact Q7 ds vs key.2 j d v (by simpa using f) (by simpa using hv)
section ops
variable {P:Program} {w0:Bs} {G:Gh} {S:St} {a:Act} {w:World} {o:Oper} {K:Act->World->Prop} {Q:Exit->Act->World->Prop}
theorem UX(h:Inv w0 G S a w){T:TypeId}{l c:Operand}(I:o.op=.makeSlice T l c){E:Env}(N:E.tt.ok P=true){ws:List W}(hv:(eff E o).val S=some ws)
  (O:∀a' w' G',Inv w0 G' (S.puts ws) a' w'->K a' w'):o.wp P a w K Q:=by
 unfold eff at hv;rw[I]at hv;simp only at hv;split at hv
 ·rename_i d t R U;obtain⟨e,inf,z,V,hi,p,X,Y,r,s⟩:=TT.jG N U;split at hv
  ·rename_i i j;split at hv
   ·rename_i u;subst u;simp only[Rd.aK,zB,Rd.val,zD]at hv;obtain⟨av,J,n,h2,m,q,ws',h4,rfl⟩:=hv;obtain⟨kk,hn⟩:=xC h2 (aY h J);obtain⟨y,rfl⟩:=iP h4;unfold mk at q;split at q
    case isFalse=>cases q
    rename_i A;simp only[zD]at q;subst q;have hwrap:IntKind.i64.wrap n=n:=IntWalk.i64_in (by omega) (by omega);let Z:Array Value:=if n.toNat*t.size=0 then #[]else z.cells
    let arr:Array Value:=(Array.range (n.toNat*t.size)).map (λm=>Z[m % Z.size]!);have hbel:Below w.heap.size w (w.alloc (.cells arr e)):=(Below.refl _ _).alloc (aD _) _;have h6:=h.grow hbel;have hnew:=heap_alloc_new w (.cells arr e);have hp:=t.size_pos;have hO:OwT (w.alloc (.cells arr e)) G.S true true t (List.replicate n.toNat t.zero) (.slice (some ⟨w.heap.size,0,none⟩) n.toNat n.toNat) (λc=>c=w.heap.size):=by
     refine .inr ⟨w.heap.size,n.toNat,arr,e,λ_ j=>z.cells.toList.getD j undef,λ_ _ _=>False,by simp,hnew,by simp,?_,by simp[arr],rfl,?_,?_,?_,?_,?_⟩
     ·unfold maxLen;omega
     ·intro i x j dd k b;have B:i<n.toNat:=by have:=(zC.1 k).1;simpa using this
      have L:j<t.size:=by
       have:=(zC.1 b).1;rwa [Ty.bn]at this
      have C:i*t.size+j<n.toNat*t.size:=by
       have:(i+1)*t.size<=n.toNat*t.size:=Nat.mul_le_mul_right _ B;rw[Nat.succ_mul]at this;omega
      have hZ:Z=z.cells:=if_neg (by omega);have hmod:(i*t.size+j) % t.size=j:=by rw[Nat.mul_comm,Nat.mul_add_mod,Nat.mod_eq_of_lt L]
      have g:j<z.cells.size:=by omega
      simp[arr,C,hZ,r,hmod];rw[getElem!_pos z.cells j g,getElem?_pos z.cells j g];rfl
     ·intro i x j dd k b;have D:x=t.zero:=by
       have:=zG k;exact (List.mem_replicate.1 this).2
      subst D;have L:j<t.size:=by
       have:=(zC.1 b).1;rwa [Ty.bn]at this
      have g:j<z.cells.toList.length:=by simp;omega
      exact Q7 _ _ s j dd _ b (by show z.cells.toList[j]?=some (z.cells.toList.getD j undef);rw[zE,zF g];rfl)
     ·intro _ _ _ hf;exact hf.elim
     ·intro _ _ _ _ _ hf;exact hf.elim
     ·intro oo hs;exact absurd (h.sok _ oo hs).1 (Nat.lt_irrefl _)
    obtain⟨G2,h7⟩:=h6.KU d (v:=.slice (some ⟨w.heap.size,0,none⟩) n.toNat n.toNat) (λc=>c=w.heap.size) y (λc hc=>by
     subst hc;exact⟨.inl h.below.size,by simp,λi F=>absurd (h.olt _ _ F).2 (Nat.lt_irrefl _),λk' j' _ _ _ _ F=>absurd (h.olt _ _ F).2 (Nat.lt_irrefl _)⟩) hO
    refine aW (v:=.slice (some ⟨w.heap.size,0,none⟩) n.toNat n.toNat) (w':=w.alloc (.cells arr e)) ?_ (O _ _ G2 ?_)
    ·have hb2:(inf.bytes:Int)*n<=140737488355328:=by
      have J:(inf.bytes:Int)*n<=4096*n:=Int.mul_le_mul_of_nonneg_right (by omega) A.1;omega
     have H:(decide (n<0)||decide ((inf.bytes:Int)*n>2 ^ 48))=false:=by
      simp only[Bool.or_eq_false_iff,decide_eq_false_iff_not];omega
     unfold execOp;simp only[I,Instr.makeSlice,Sem.run_bind,run_underlying V,Result.andThen_ok,hn,asInt,asIntOf,Sem.run_pure,typeInfo,run_program,hi,hwrap,H,sizeOf];have h0n:¬n<0:=by omega
     simp only[h0n,decide_false,Bool.false_or,gt_iff_lt,Int.lt_irrefl,aM,if_false];have e0:∀f:Nat->Value,Array.map f (Array.range 0) = #[]:=λf=>Array.eq_empty_of_size_eq_zero (by simp)
     by_cases M:n.toNat*t.size=0
     ·simp[M,e0,newRow,arr,hi,p]
     ·simp[M,zeroValue,typeInfo,hi,Y,p,newRow,arr,Z]
    ·rw[R];exact h7
   ·cases hv
  ·cases hv
 ·cases hv
end ops
section ops
variable {P:Program} {w0:Bs} {G:Gh} {S:St} {a:Act} {w:World} {o:Oper} {K:Act->World->Prop} {Q:Exit->Act->World->Prop}
theorem Jo{n p:Nat}:p=p / n*n+p % n:=by
 have:=Nat.div_add_mod p n;rw[Nat.mul_comm]at this;omega
theorem AL{i j n m:Nat}(hi:i<m)(a:j<n):i*n+j<m*n:=by
 have:(i+1)*n<=m*n:=Nat.mul_le_mul_right _ hi;rw[Nat.succ_mul]at this;omega
theorem VP{t:Ty}{xs:List t.den}{p:Nat}(hp:p<xs.length*t.size):∃x d,xs[p / t.size]?=some x/\(t.cells x)[p % t.size]?=some d:=by
 have b:=t.size_pos;have hi:p / t.size<xs.length:=Nat.div_lt_of_lt_mul (by rw[Nat.mul_comm];exact hp);have c:p % t.size<t.size:=Nat.mod_lt _ b;have a:p % t.size<(t.cells xs[p / t.size]).length:=by rw[Ty.bn];exact c
 exact⟨xs[p / t.size],(t.cells xs[p / t.size])[p % t.size],by simp[hi],by simp[a]⟩
theorem OwT.laid{S:Nat->Nat->Prop}{deep m:Bool}{t:Ty}{xs:List t.den}{v:Value}{fp:Nat->Prop}(h:OwT w S deep m t xs v fp) :
  (v=.slice none 0 0/\xs=[])\/∃b cap arr E rest cells,v=.slice (some ⟨b,0,none⟩) xs.length cap/\w.heap[b]?=some (.cells arr E (0,0))/\xs.length<=cap/\cap<=maxLen/\arr.size=cap*t.size/\fp b /\
   arr.toList=cells++rest/\nX w S deep t xs cells (λc=>fp c/\c≠b)/\(∀o,S b o->m=false/\o<xs.length*t.size):=by
 rcases h with h | ⟨b,cap,arr,E,vs,fps,rfl,r,hcap,hmax,g,l,hc,q,hf,hdis,s⟩
 ·exact .inl h
 ·have u:xs.length*t.size<=arr.toList.length:=by
   have e:arr.toList.length=arr.size:=Array.length_toList;rw[e,g];exact Nat.mul_le_mul_right _ hcap
  have hcell:∀(i:Nat) (x:t.den) (j:Nat) (d:D),xs[i]?=some x->(t.cells x)[j]?=some d->(arr.toList.take (xs.length*t.size))[i*t.size+j]?=some (vs i j):=by
   intro i x j d a f;have hi:i<xs.length:=(zC.1 a).1;have y:j<t.size:=by
    have:=(zC.1 f).1;rwa [Ty.bn]at this
   rw[amo,if_pos (AL hi y)];simpa using hc i x j d a f
  refine .inr ⟨b,cap,arr,E,arr.toList.drop (xs.length*t.size),arr.toList.take (xs.length*t.size),rfl,r,hcap,hmax,g,l,(List.take_append_drop _ _).symm,⟨?_,?_,vs,fps,λi x j d a f=>⟨hcell i x j d a f,q i x j d a f⟩,hf,hdis⟩,s⟩
  ·rw[bc];omega
  ·intro v hv;obtain⟨p,k,rfl⟩:=List.mem_iff_getElem.1 hv;have hp:=k;rw[bc]at hp;obtain⟨x,d,a,f⟩:=VP (t:=t) (xs:=xs) (p:=p) (by omega);have e:=hcell _ _ _ _ a f;rw[<- Jo (n:=t.size)]at e;have z:(arr.toList.take (xs.length*t.size))[p]?=some (arr.toList.take (xs.length*t.size))[p]:=zF k;rw[z]at e;rw[a7 e];exact (q _ _ _ _ a f).one
theorem Jw{w':World}{S S':Nat->Nat->Prop}{deep dp m:Bool}{t:Ty}{xs ys:List t.den}{olds news rest:List Value}{labD labS:Nat->Prop}
  (C:nX w S deep t xs olds labD) (D:nX w S dp t ys news labS) (l:∀c,labD c->labS c->False)
  {g cap:Nat} {arr:Array Value} {E:TypeId} (F:w'.heap[g]?=some (.cells arr E (0,0))) (harr:arr.toList=olds++news++rest) (hcap:xs.length+ys.length<=cap) (hmax:cap<=maxLen) (r:arr.size=cap*t.size)
  {lab:Nat->Prop} (G:lab g) (n:∀c,labD c\/labS c->lab c/\c≠g/\w'.heap[c]?=w.heap[c]?) (A:∀b o,S b o->S' b o/\w'.cell? ⟨b,o,none⟩=w.cell? ⟨b,o,none⟩)
  (H:∀o,S' g o->m=false/\o<(xs.length+ys.length)*t.size) :
  OwT w' S' (deep&&dp) m t (xs++ys) (.slice (some ⟨g,0,none⟩) (xs.length+ys.length) cap) lab:=by
 obtain⟨I,M,s,fps1,c1,p,J⟩:=C;obtain⟨N,o2,u,fps2,c2,q,K⟩:=D;refine .inr ⟨g,cap,arr,E,λi j=>if i<xs.length then s i j else u (i-xs.length) j,λi j c=>if i<xs.length then fps1 i j c else fps2 (i-xs.length) j c,by rw[a8],F,by rw[a8];exact hcap,hmax,r,G,?_,?_,?_,?_,?_⟩
 ·intro i x j d h k;have B:j<t.size:=by
   have:=(zC.1 k).1;rwa [Ty.bn]at this
  rw[<- Array.getElem?_toList,harr];by_cases hi:i<xs.length
  ·rw[amE hi]at h;have v:=(c1 i x j d h k).1;have y:=AL hi B;rw[ba,amE (by omega),v];simp[hi]
  ·rw[amD (by omega)]at h;have v:=(c2 (i-xs.length) x j d h k).1;have z:i-xs.length<ys.length:=(zC.1 h).1;have y:=AL z B;have e:i*t.size+j=xs.length*t.size+((i-xs.length)*t.size+j):=by
    rw[<- Nat.add_assoc,<- Nat.add_mul];congr 2;omega
   rw[ba,amD (by omega),amE (by omega),I,e,Nat.add_sub_cancel_left,v];simp[hi]
 ·intro i x j d h k;by_cases hi:i<xs.length
  ·rw[amE hi]at h;simp only[hi,if_true];exact ((c1 i x j d h k).2.move A λc hc=>(n c (.inl (p i j c hc))).2.2).sub (λ_ hc=>hc) λe=>(zI _ _▸e).1
  ·rw[amD (by omega)]at h;simp only[hi,if_false];exact ((c2 _ x j d h k).2.move A λc hc=>(n c (.inr (q _ j c hc))).2.2).sub (λ_ hc=>hc) λe=>(zI _ _▸e).2
 ·intro i j c hc;by_cases hi:i<xs.length
  ·simp only[hi,if_true]at hc;have:=n c (.inl (p i j c hc));exact⟨this.1,this.2.1⟩
  ·simp only[hi,if_false]at hc;have:=n c (.inr (q _ j c hc));exact⟨this.1,this.2.1⟩
 ·intro i j i' j' c hc a;by_cases hi:i<xs.length
  ·simp only[hi,if_true]at hc;by_cases f:i'<xs.length
   ·simp only[f,if_true]at a;exact J _ _ _ _ _ hc a
   ·simp only[f,if_false]at a;exact (l c (p _ _ _ hc) (q _ _ _ a)).elim
  ·simp only[hi,if_false]at hc;by_cases f:i'<xs.length
   ·simp only[f,if_true]at a;exact (l c (p _ _ _ a) (q _ _ _ hc)).elim
   ·simp only[f,if_false]at a;have:=K _ _ _ _ _ hc a;omega
 ·intro oo L;rw[a8];exact H oo L
theorem uK{t:Ty}(hf:t.flat=true){x:t.den}{j:Nat}{d:D}(b:(t.cells x)[j]?=some d):qw d=none:=by
 have a:((t.cells x).map qw)[j]?=some (qw d):=by simp[b]
 rw[LJ]at a;have:=List.all_eq_true.1 hf _ (zG a);simpa using this
theorem Rw{S S':Nat->Nat->Prop}{dp:Bool}{d:D}{v:Value}{fp:Nat->Prop}(c:qw d=none)(h:Rep w S d v):Ow w S' dp d v fp:=by
 cases h with
 | int k n=>exact .int k n fp
 | bool b=>exact .bool b fp
 | str s=>exact .str s fp
 | nil t=>cases c
 | emp t a cap=>cases c
 | list t xs b off cap vs hcap hc e=>cases c
theorem EM(h:Inv w0 G S a w){t:Ty}{ys:List t.den}{c:C}{v:Value}{dp:Bool}(s:(cD (some t) c).val S=some (.list t ys))(hc:mV G w c v)
  (l:((if t.flat then Rd.ret true else Dq c)).val S=some dp) {S':Nat->Nat->Prop} (Q:∀x o,(G.S x o\/AK G S (aO [c]) x o)->S' x o) :
  ((∃(ad:Option Addr) (cap:Nat),v=.slice ad 0 cap/\(ad=none->cap=0))/\ys=[])\/∃b off cap news,v=.slice (some ⟨b,off,none⟩) ys.length cap/\(∀p u,news[p]?=some u->w.cell? ⟨b,off+p,none⟩=some u) /\
   nX w S' dp t ys news (λx=>t.flat=false/\rowsOf G S c x):=by
 have hrep:=EC h s hc (aO [c]) (λk j e=>by subst e;simp[aO]);generalize r:D.list t ys=dd at hrep;cases hrep with
 | int=>cases r
 | bool=>cases r
 | str=>cases r
 | nil t'=>cases r;exact .inl ⟨⟨none,0,rfl,λ_=>rfl⟩,rfl⟩
 | emp t' ad cap=>cases r;exact .inl ⟨⟨some ad,cap,rfl,λhh=>(by cases hh)⟩,rfl⟩
 | list t' xs' b off cap vs hcap A I=>
  cases r
  have hnews:∀(p:Nat) (u:Value),((List.range (ys.length*t.size)).map λp=>vs (p / t.size) (p % t.size))[p]?=some u->p<ys.length*t.size/\u=vs (p / t.size) (p % t.size):=by
   intro p u z;simp only[amh,ami]at z;obtain⟨q,J,rfl⟩:=z;have g:p<ys.length*t.size:=by have:=(zC.1 J).1;simpa using this
   have:q=p:=by simp[g]at J;exact J.symm
   rw[this];exact⟨g,rfl⟩
  have hget:∀(i j:Nat),i<ys.length->j<t.size->((List.range (ys.length*t.size)).map λp=>vs (p / t.size) (p % t.size))[i*t.size+j]?=some (vs i j):=by
   intro i j hi B;have g:=AL hi B;have y:(i*t.size+j) / t.size=i:=by rw[Nat.mul_comm,Nat.mul_add_div t.size_pos,Nat.div_eq_of_lt B];omega
   have R:(i*t.size+j) % t.size=j:=by rw[Nat.mul_comm,Nat.mul_add_mod,Nat.mod_eq_of_lt B]
   simp[g,y,R]
  refine .inr ⟨b,off,cap,(List.range (ys.length*t.size)).map λp=>vs (p / t.size) (p % t.size),rfl,?_,by simp,?_,?_⟩
  ·intro p u z;obtain⟨g,rfl⟩:=hnews p u z;obtain⟨x,d,m,f⟩:=VP (t:=t) (xs:=ys) g;have:=(A _ _ _ _ m f).1;rw[<- Jo (n:=t.size)]at this;exact this
  ·intro u z;obtain⟨p,H⟩:=List.mem_iff_getElem?.1 z;obtain⟨g,rfl⟩:=hnews p u H;obtain⟨x,d,m,f⟩:=VP (t:=t) (xs:=ys) g;exact (I _ _ _ _ m f).one
  ·by_cases hf:t.flat=true
   ·refine⟨vs,λ_ _ _=>False,λi x j d m f=>⟨hget i j (zC.1 m).1 (by have:=(zC.1 f).1;rwa [Ty.bn]at this),Rw (uK hf f) (I _ _ _ _ m f)⟩,λ_ _ _ hh=>hh.elim,λ_ _ _ _ _ hh=>hh.elim⟩
   ·have K:t.flat=false:=by simpa using hf
    rw[if_neg hf]at l;cases dp with
    | false=>
     exact⟨vs,λ_ _ _=>False,λi x j d m f=>⟨hget i j (zC.1 m).1 (by have:=(zC.1 f).1;rwa [Ty.bn]at this),.ro _ _ _ rfl ((I _ _ _ _ m f).move λx o L=>⟨Q x o L,rfl⟩)⟩,λ_ _ _ hh=>hh.elim,λ_ _ _ _ _ hh=>hh.elim⟩
    | true=>
     cases c with
     | undef=>cases s
     | d x=>
      simp only[cD,Rd.val,zD]at s;subst s;simp[Dq,Rd.val]at l
     | nil=>
      have:Value.slice (some ⟨b,off,none⟩) ys.length cap=.slice none 0 0:=hc;cases this
     | ptr b' off'=>cases s
     | own k j=>
      simp only[Dq,Rd.val]at l;simp only[cD,Rd.val]at s;have hcore:∀ {m':Bool},(bC (S.aQ k) j).sZ=.own t ys true m'->∃(E:Nat->Nat->Value) (fps:Nat->Nat->Nat->Prop),(∀(i:Nat) (x:t.den) (j':Nat) (d:D),ys[i]?=some x->(t.cells x)[j']?=some d ->
        ((List.range (ys.length*t.size)).map λp=>vs (p / t.size) (p % t.size))[i*t.size+j']?=some (E i j')/\Ow w S' true d (E i j') (fps i j'))/\(∀i j' c,fps i j' c->t.flat=false/\rowsOf G S (C.own k j) c)/\∀i j' i' j'' c,fps i j' c->fps i' j'' c->i=i'/\j'=j'':=by
       intro m' hown;have U:=h.aeS hown;rcases U with ⟨H,_⟩ | ⟨b',cap',arr,e,vs',fps',F,M,hcap',_,_,_,N,O,P,hdis',_⟩
       ·rw[<- hc.2.1]at H;cases H
       ·rw[<- hc.2.1]at F;injection F with y R W;injection y with y;injection y with y V _;subst y;subst V;refine⟨vs,λi j c=>fps' i j c,λi x j' d m f=>?_,λi j' c hh=>⟨K,k,j,rfl,(P i j' c hh).1,_,_,_,_,hown⟩,hdis'⟩;have B:j'<t.size:=by
         have:=(zC.1 f).1;rwa [Ty.bn]at this
        refine⟨hget i j' (zC.1 m).1 B,?_⟩;have ee:vs i j'=vs' i j':=by
         have T:=(A i x j' d m f).1;rw[amw,cell_of_row w _ _ _ _ _ M,N i x j' d m f]at T;exact (a7 T).symm
        rw[ee];exact (O i x j' d m f).move (λx o L=>⟨Q x o (.inl L),rfl⟩) λ_ _=>rfl
      split at l
      ·rename_i t' xs' deep' m' hown;simp only[Rd.val,zD]at l;subst l;rw[hown]at s;simp only[Rd.val,zD]at s;cases s
       exact hcore (m':=m') (by rw[hown];rfl)
      ·rename_i t' xs' hown;rw[hown]at s;simp only[Rd.val,zD]at s;cases s
       exact hcore (m':=true) (by rw[hown];rfl)
      ·simp[Rd.val]at l
end ops
