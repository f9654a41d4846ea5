import Derived.Test.YtapgeemjgckgaaaGreatDoorS1
import Derived.Laws.BytesString
set_option linter.unusedSimpArgs false
set_option linter.unusedVariables false
/- Operations: arithmetic, strings, structs, new lists. -/
namespace Go.Abs
open Go.RowKit
section ops
variable {P:Program} {w0:Bs} {G:Gh} {S:St} {a:Act} {w:World} {o:Oper} {K:Act->World->Prop} {Q:Exit->Act->World->Prop}
theorem abu{op:BinOp}{T:TypeId}{x y:Operand}{d:D}{u v:Value}(a:Rep w G.S d u):(eqGuard op T x y u v).run P w=.ok () w:=by
 unfold eqGuard;cases a<;>(split<;>rfl)
theorem dH.repL{ds:List D}{vs:List Value}(h:dH G w (ds.map .d) vs):NP w G.S ds vs:=by
 obtain⟨a,b⟩:=h.get;exact⟨by simpa using a,fun i d v hd hv=>b i (.d d) v (by simp[hd]) hv⟩
theorem aiW(h:Inv w0 G S a w){bo:BinOp}{T T':TypeId}{x y:Operand}(s:o.op=.binOp bo T x y T'){E:Env}(M:E.tt.ok P=true){ws:List W}(hv:(eff E o).val S=some ws)
  (u:∀a' w' G',Inv w0 G' (S.puts ws) a' w'->K a' w'):o.wp P a w K Q:=by
 unfold eff at hv;rw[s]at hv;simp only[Rd.aF,zB]at hv;obtain⟨av,N,av',O,hv⟩:=hv;have c:=bg h N;have f:=bg h O;split at hv
 ·rename_i cs cs';split at hv
  ·cases hv
  rename_i ks A;obtain⟨R,B,fs,U⟩:=TT.aoN M A;split at hv
  case h_2=>cases hv
  rename_i ds ds' C n;obtain⟨rfl,V⟩:=Lh C;obtain⟨rfl,X⟩:=Lh n;obtain⟨vs,i,F⟩:=c;obtain⟨us,j,H⟩:=f;have g:=abt (P:=P) (w:=w) 9 9991 T ks ds ds' vs us R V X F.repL H.repL;simp only[AP,U]at g;have t:∀op,(eqGuard op T x y (.agg vs.toArray) (.agg us.toArray)).run P w=.ok () w:=fun op=>run_eqGuard_agg w op T x y _ _ B
  split at hv
  ·simp only[Rd.val,zD]at hv;subst hv;refine aS (v:=.bool (EW ds ds')) (w':=w) ?_ (u _ _ _ (h.dst (Rep.bool _)));unfold execOp;simp only[s,i,j,Sem.run_bind,t,Result.andThen_ok,run_eql_struct,g,Sem.run_pure]
  ·simp only[Rd.val,zD]at hv;subst hv;refine aS (v:=.bool (!(EW ds ds'))) (w':=w) ?_ (u _ _ _ (h.dst (Rep.bool _)));unfold execOp;simp only[s,i,j,Sem.run_bind,t,Result.andThen_ok,run_neq_struct,g,Sem.run_pure]
  ·cases hv
 ·simp only[Rd.aF,zB]at hv;obtain⟨dx,Y,dy,Z,hv⟩:=hv;have c:=nD Y c;have f:=nD Z f;have t:(eqGuard bo T x y (a.eval x) (a.eval y)).run P w=.ok () w:=abu c;have fin:∀ {z:D} {r:Value},(binOp bo T (a.eval x) (a.eval y)).run P w=.ok r w->Rep w G.S z r->ws=fQ o (.v (.one (.d z)))->o.wp P a w K Q:=by
   intro z r g hrep I;subst I;refine aS (v:=r) (w':=w) ?_ (u _ _ _ (h.dst (av:=.v (.one (.d z))) hrep));unfold execOp;simp only[s,Sem.run_bind,t,Result.andThen_ok,g,Sem.run_pure]
  generalize i:a.eval x=xv at c fin;generalize j:a.eval y=yv at f fin;split at hv
  ·split at hv
   case isFalse=>cases hv
   rename_i k;subst k;simp only[Rd.val,zB,zD]at hv;obtain⟨z,b,rfl⟩:=hv;cases c;cases f
   unfold quoI at b;split at b
   ·cases b
   ·rename_i l;cases b
    exact fin (by simp[binOp,Op.intDiv,l]) (Rep.int _ _) rfl
  ·split at hv
   case isFalse=>cases hv
   rename_i k;subst k;simp only[Rd.val,zB,zD]at hv;obtain⟨z,b,rfl⟩:=hv;cases c;cases f
   unfold remI at b;split at b
   ·cases b
   ·rename_i l;cases b
    exact fin (by simp[binOp,Op.intDiv,l]) (Rep.int _ _) rfl
  ·simp only[Rd.val,zB,zD]at hv;obtain⟨z,b,rfl⟩:=hv;cases c;cases f
   unfold shlI at b;split at b
   ·cases b
   ·rename_i l;cases b
    exact fin (by simp[binOp,Op.shift,l]) (Rep.int _ _) rfl
  ·simp only[Rd.val,zB,zD]at hv;obtain⟨z,b,rfl⟩:=hv;cases c;cases f
   unfold shrI at b;split at b
   ·cases b
   ·rename_i l;cases b
    exact fin (by simp[binOp,Op.shift,l]) (Rep.int _ _) rfl
  ·simp only[Rd.val,zB,zD]at hv;obtain⟨_,m,rfl⟩:=hv;rename_i p q _;have J:List.length p+List.length q<=34359738368:=by
    unfold gd at m;split at m
    ·rename_i L;exact L
    ·cases m
   obtain⟨r,g,hrep⟩:=acA (P:=P) c f J T;exact fin g hrep rfl
  ·split at hv
   ·rename_i hb;simp only[Rd.val,zB,zD]at hv;obtain⟨z,b,rfl⟩:=hv;obtain⟨r,g,hrep⟩:=aj8 (P:=P) b c f T (fun p q e _=>TT.alz M (hb (by rw[e];rfl)));exact fin g hrep rfl
   ·cases hv
theorem akP(h:Inv w0 G S a w){uo:UnOp}{T:TypeId}{x:Operand}(d:o.op=.unOp uo T x){E:Env}{ws:List W}(hv:(eff E o).val S=some ws)
  (f:∀a' w' G',Inv w0 G' (S.puts ws) a' w'->K a' w'):o.wp P a w K Q:=by
 unfold eff at hv;rw[d]at hv;simp only[Rd.aF,zB]at hv;obtain⟨av,g,dx,i,hv⟩:=hv;have e:=nD i (bg h g);generalize c:a.eval x=xv at e;split at hv
 ·rename_i b;split at hv
  ·simp only[Rd.val,zD]at hv;subst hv;cases e
   refine aS (v:=.bool (!b)) (w':=w) ?_ (f _ _ _ (h.dst (Rep.bool _)));unfold execOp;simp[d,c,Op.unary]
  ·cases hv
 ·rename_i k n;split at hv
  ·simp only[Rd.val,zD]at hv;subst hv;cases e
   refine aS (v:=.int k (k.wrap (0-n))) (w':=w) ?_ (f _ _ _ (h.dst (Rep.int _ _)));unfold execOp;simp[d,c,Op.unary,Op.intArith]
  ·cases hv
 ·cases hv
theorem aal(h:Inv w0 G S a w){x:Operand}(c:o.op=.nilCheck x){E:Env}{ws:List W}(hv:(eff E o).val S=some ws)
  (e:∀a' w' G',Inv w0 G' (S.puts ws) a' w'->K a' w'):o.wp P a w K Q:=by
 unfold eff at hv;rw[c]at hv;simp only[Rd.aF,zB]at hv;obtain⟨av,f,hv⟩:=hv;have d:=bg h f;split at hv
 ·rename_i b off;simp only[Rd.val,zD]at hv;subst hv;refine aS (v:=a.eval x) (w':=w) ?_ (e _ _ _ (h.dst d));have:a.eval x=.pointer (some ⟨G.bk b,off,none⟩):=d.2;unfold execOp;simp[c,this]
 ·cases hv
theorem jP{c:Call}{b:Builtin}(d:o.op=.call c)(e:c.callee=.builtin b){r:Value}{w':World}
  (f:(builtin b c.argTypes o.type (c.args.map fun | .const _=>true | _=>false) (c.args.map a.eval)).run P w=.ok (.value r) w') :
  (execOp a.eval o).run P w=.ok (.value r) w':=by
 unfold execOp;simp only[d,resolve,e,Sem.run_bind,Sem.run_pure,Result.andThen_ok,invoke];exact f
theorem oV{α:Type}{xs:Array α}{x:α}(h:xs.toList=[x]):xs = #[x]:=by
 cases xs;simp at h;rw[h]
theorem nI{α:Type}{xs:Array α}{x y:α}(h:xs.toList=[x,y]):xs = #[x,y]:=by
 cases xs;simp at h;rw[h]
theorem aoE(h:Inv w0 G S a w){c:Call}(r:o.op=.call c)(g:c.callee=.builtin .len){E:Env}(A:E.tt.ok P=true){ws:List W}(hv:(eff E o).val S=some ws)
  (l:∀a' w' G',Inv w0 G' (S.puts ws) a' w'->K a' w'):o.wp P a w K Q:=by
 unfold eff at hv;rw[r]at hv;simp only[g]at hv;split at hv
 ·rename_i x T p u;have hargs:=oV p;have htys:=oV u;simp only[Rd.aF,zB]at hv;obtain⟨av,B,hv⟩:=hv;have f:=bg h B;have str:∀s:ByteArray,a.eval x=.string s->E.tt.strs.contains T=true->(execOp a.eval o).run P w=.ok (.value (.int .i64 s.size)) w:=by
   intro s d i;refine jP r g ?_;simp[builtin,hargs,htys,d,Builtin.len_,run_underlying (TT.O3 A i),goInt]
  have sli:∀ad n cap,a.eval x=.slice ad n cap->(lk E.tt.elem T).isSome=true->(execOp a.eval o).run P w=.ok (.value (.int .i64 n)) w:=by
   intro ad n cap d i;obtain⟨t,C⟩:=Option.isSome_iff_exists.1 i;obtain⟨e,_,_,D,_⟩:=TT.jw A C;refine jP r g ?_;simp[builtin,hargs,htys,d,Builtin.len_,run_underlying D,goInt]
  have rep:∀(t:Ty) (xs:List t.den) v,Rep w G.S (.list t xs) v->a.eval x=v->(lk E.tt.elem T).isSome=true->(execOp a.eval o).run P w=.ok (.value (.int .i64 xs.length)) w:=by
   intro t xs v hrep hv i;cases hrep with
   | nil=>exact sli _ _ _ hv i
   | emp=>exact sli _ _ _ hv i
   | list _ _ b off cap vs hcap _ _=>exact sli _ _ _ hv i
  split at hv
  ·rename_i s;split at hv
   ·rename_i d;simp only[Rd.val,zD]at hv;subst hv;generalize y:a.eval x=xv at f;cases f with
    | str v=>exact aS (str v y d) (l _ _ _ (h.dst (by rw[pM];exact Rep.int _ _)))
   ·cases hv
  ·rename_i t xs;split at hv
   ·rename_i d;simp only[Rd.val,zD]at hv;subst hv;exact aS (rep t xs _ f rfl d) (l _ _ _ (h.dst (Rep.int _ _)))
   ·cases hv
  ·split at hv
   ·rename_i d;simp only[Rd.val,zD]at hv;subst hv;exact aS (sli _ _ _ f d) (l _ _ _ (h.dst (Rep.int _ _)))
   ·cases hv
  ·rename_i k j;split at hv
   ·rename_i d;simp only[Rd.val]at hv;split at hv
    ·rename_i t xs deep m hown;simp only[Rd.val,zD]at hv;subst hv;have q:=h.owns k j;rw[hown]at q;refine aS ?_ (l _ _ _ (h.dst (Rep.int _ _)));rcases q with ⟨z,F⟩ | ⟨b,cap,arr,e',vs,fps,z,_⟩
     ·subst F;exact sli _ _ _ (f.2.1.trans z) d
     ·exact sli _ _ _ (f.2.1.trans z) d
    ·rename_i t xs hown;simp only[Rd.val,zD]at hv;subst hv;exact aS (rep t xs _ (h.Xx hown) f.2.1 d) (l _ _ _ (h.dst (Rep.int _ _)))
    ·rename_i t xs hown;simp only[Rd.val,zD]at hv;subst hv;have q:=h.aiK (k:=k) (j:=j) (t:=t) (xs:=xs) (deep:=true) (m:=true) (by rw[hown];rfl);refine aS (v:=.int .i64 xs.length) (w':=w) ?_ (l _ _ _ (h.dst (Rep.int _ _)));rcases q with ⟨p,rfl⟩ | ⟨b,cap,_,_,_,_,p,_⟩
     ·exact sli none 0 0 (by rw[f.2.1];exact p) d
     ·exact sli _ _ cap (by rw[f.2.1];exact p) d
    ·cases hv
   ·cases hv
  ·cases hv
 ·cases hv
end ops
end Go.Abs
namespace Go.Abs
open Go.RowKit
theorem wU{α:Type}(cs:List α)(off:Nat)(vs:List α)(h:off+vs.length<=cs.length):(dw cs off vs).length=cs.length:=by
 simp[dw];omega
theorem Zw{α:Type}(cs:List α)(off:Nat)(v:α)(vs:List α)(h:off+(vs.length+1)<=cs.length):dw (cs.set off v) (off+1) vs=dw cs off (v::vs):=by
 apply List.ext_getElem?;intro i;simp only[dw,List.getElem?_append,List.getElem?_take,List.getElem?_drop,List.getElem?_set,a6,a8,List.length_set,List.length_cons,List.getElem?_cons];have f:min (off+1) cs.length=off+1:=by omega
 have g:min off cs.length=off:=by omega
 rw[f,g];by_cases d:i<off
 ·have b:i<off+1:=by omega
  have c:i<off+1+vs.length:=by omega
  have a:i<off+(vs.length+1):=by omega
  have j:off≠i:=by omega
  simp[d,b,c,a,j]
 ·by_cases k:i=off
  ·subst k;have c:i<i+1+vs.length:=by omega
   have l:i<cs.length:=by omega
   simp[c,l]
  ·have b:¬i<off+1:=by omega
   by_cases e:i<off+1+vs.length
   ·have a:i<off+(vs.length+1):=by omega
    have m:i-off≠0:=by omega
    have n:i-off-1=i-(off+1):=by omega
    simp[d,b,e,a,m,n]
   ·have a:¬i<off+(vs.length+1):=by omega
    have o:off≠off+1+vs.length+(i-(off+1+vs.length)):=by omega
    simp only[e,a,o,if_false];congr 1;omega
theorem abh:∀(vs:List Value) (k off:Nat) (cs:Array Value),off+k+vs.length<=cs.size ->
  (vs.zipIdx k).foldl (fun (cs:Array Value) (p:Value×Nat)=>cs.setIfInBounds (off+p.2) p.1) cs=(dw cs.toList (off+k) vs).toArray
 | [],k,off,cs,_=>by simp[dw]
 | v::vs,k,off,cs,h=>by
  simp only[List.zipIdx_cons,List.foldl_cons];rw[abh vs (k+1) off _ (by simp at h ⊢;omega)];simp only[Array.toList_setIfInBounds];congr 1;exact Zw cs.toList (off+k) v vs (by simp at h ⊢;omega)
section ops
variable {P:Program} {w0:Bs} {G:Gh} {S:St} {a:Act} {w:World} {o:Oper} {K:Act->World->Prop} {Q:Exit->Act->World->Prop}
theorem Vz(h:Inv w0 G S a w){c:Call}(i:o.op=.call c)(b:c.callee=.builtin .max\/c.callee=.builtin .min){E:Env}{ws:List W}(hv:(eff E o).val S=some ws)
  (l:∀a' w' G',Inv w0 G' (S.puts ws) a' w'->K a' w'):o.wp P a w K Q:=by
 unfold eff at hv;rw[i]at hv;rcases b with b | b
 all_goals
  simp only[b]at hv
  split at hv
  ·rename_i x y g;have hargs:=nI g;simp only[Rd.aF,zB]at hv;obtain⟨av,p,d,q,hv⟩:=hv;have j:=nD q (bg h p);generalize e:a.eval x=xv at j;split at hv
   ·rename_i m;simp only[Rd.aF,zB]at hv;obtain⟨av',r,d',s,hv⟩:=hv;have k:=nD s (bg h r);generalize f:a.eval y=yv at k;split at hv
    ·rename_i n;simp only[Rd.val,zD]at hv;subst hv;cases j
     cases k
     refine aS ?_ (l _ _ _ (h.dst (Rep.int _ _)));refine jP i b ?_;first
      | (have:=run_max_int2 (P:=P) w c.argTypes o.type .i64 .i64 m n
         simp[builtin,hargs,e,f,this];done)
      | (have:=run_min_int2 (P:=P) w c.argTypes o.type .i64 .i64 m n
         simp[builtin,hargs,e,f,this];done)
    ·cases hv
   ·cases hv
  ·cases hv
theorem SH:∀(ns:List Int) (s:ByteArray),(ns.foldl (fun r n=>r.push (UInt8.ofNat n.toNat)) s).data.toList=s.data.toList++ns.map fun n=>UInt8.ofNat n.toNat
 | [],s=>by simp
 | n::ns,s=>by
  rw[List.foldl_cons,SH ns];simp[ByteArray.push]
theorem agq{S0:Nat->Nat->Prop}{xs:List Int}{v:Value}(h:Rep w S0 (.list (.base .u8) xs) v):∃b:ByteArray,(Conv.bytesToString v).run P w=.ok (.string b) w/\b.data.toList=bytesOf xs:=by
 have some_:∀(ad:Addr) (cap:Nat),(loadCells ad xs.length).run P w=.ok (xs.map (Value.int .u8)).toArray w->∃b:ByteArray,(Conv.bytesToString (.slice (some ad) xs.length cap)).run P w=.ok (.string b) w/\b.data.toList=bytesOf xs:=by
  intro ad cap i;exact⟨_,run_bytesToString w ad xs.length cap xs i,by rw[SH];rfl⟩
 generalize a:D.list (.base .u8) xs=dd at h;cases h<;>cases a
 ·exact⟨ByteArray.empty,by simp[Conv.bytesToString],rfl⟩
 ·rename_i ad cap;exact some_ ad cap (run_loadCells_list (P:=P) w ad [] (by simp))
 ·rename_i b off cap vs hcap k l;refine some_ _ cap ?_;have hlen:(xs.map (Value.int .u8)).length=xs.length:=by simp
  rw[<- hlen];refine run_loadCells_list (P:=P) w _ _ fun j v c=>?_
  simp only[List.getElem?_map,Option.map_eq_some_iff]at c;obtain⟨x,d,rfl⟩:=c;have m:=k j x 0 (.int .u8 x) d rfl;have f:=l j x 0 (.int .u8 x) d rfl;have e:vs j 0=.int .u8 x:=by
   generalize vs j 0=v at f;cases f
   rfl
  rw[addr_add];have g:=m.1;rw[e]at g;simpa [Ty.size,Base.size] using g
theorem adg(h:Inv w0 G S a w){i T:TypeId}{x:Operand}(m:o.op=.convert i T x){E:Env}(f:E.tt.ok P=true){ws:List W}(hv:(eff E o).val S=some ws)
  (C:∀a' w' G',Inv w0 G' (S.puts ws) a' w'->K a' w'):o.wp P a w K Q:=by
 unfold eff at hv;rw[m]at hv;simp only[Rd.aF,zB]at hv;obtain⟨av,J,hv⟩:=hv;have F:=bg h J;split at hv
 ·rename_i k0 k p L;have q:=TT.QR f L;have r:=TT.QR f p;simp only[Rd.aF,zB,Rd.val,zD]at hv;obtain⟨n,s,rfl⟩:=hv;obtain⟨kk,M⟩:=tJ s F;refine aS (v:=.int k (k.wrap n)) (w':=w) ?_ (C _ _ _ (h.dst (Rep.int _ _)));have t:(convert i T (.int kk n)).run P w=.ok (.int k (k.wrap n)) w:=by
   simp[convert,run_underlying r,run_underlying q,Conv.intToInt]
  unfold execOp;simp[m,M,t]
 ·split at hv
  case isFalse=>cases hv
  rename_i u;have q:=TT.O3 f u.1;obtain⟨e,inf,z,g,hi,N,_,X,O,R⟩:=TT.jw f u.2;split at hv
  case h_2=>cases hv
  rename_i c;simp only[listOf,Rd.aF,zB,Rd.val,zD]at hv;obtain⟨xs,⟨d,s,xs',U,V⟩,rfl⟩:=hv;subst V;have hd:=D.bJ U;subst hd;have hrep:=SG h s F (aP [c]) (fun k j e=>by subst e;simp[aP]);obtain⟨b,H,y⟩:=agq (P:=P) hrep;refine aS (v:=.string b) (w':=w) ?_ (C _ _ _ (h.dst (by rw[<- y];exact Rep.str _)));have A:∃ad l cc,a.eval x=.slice ad l cc:=by
   generalize a.eval x=v at hrep;cases hrep<;>exact⟨_,_,_,rfl⟩
  obtain⟨ad,l,cc,I⟩:=A;rw[I]at H;have B:P.underlying e=some (.int .u8):=TT.ao2 f u.2 g;have t:(convert i T (.slice ad l cc)).run P w=.ok (.string b) w:=by
   rw[run_convert_bytes_string w i T e ad l cc g B q];exact H
  unfold execOp;simp[m,I,t]
theorem aiQ(h:Inv w0 G S a w){T:TypeId}{x:Operand}{f:Nat}(c:o.op=.field T x f){E:Env}(r:E.tt.ok P=true){ws:List W}(hv:(eff E o).val S=some ws)
  (m:∀a' w' G',Inv w0 G' (S.puts ws) a' w'->K a' w'):o.wp P a w K Q:=by
 unfold eff at hv;rw[c]at hv;simp only at hv;split at hv
 ·cases hv
 rename_i fo agg n s;obtain⟨F,fd,d,i,p,q,hoff,g,hi,hd,j,hpos⟩:=TT.RJ r s;simp only[Rd.aF,zB]at hv;obtain⟨av,t,hv⟩:=hv;have u:=bg h t;split at hv
 ·rename_i cs;simp only[Rd.val,zB]at hv;obtain⟨y,z,hv⟩:=hv;split at hv
  ·rename_i D;simp only[Rd.val,zD]at hv;subst hv;obtain⟨vs,b,A⟩:=u;obtain⟨B,C⟩:=XT z (A.seg fo n);have hagg:(isAgg fd.type).run P w=.ok agg w:=by
    unfold isAgg;rw[Sem.run_bind,run_underlying g w,<- hd];cases d<;>rfl
   cases agg with
   | true=>
    refine aS (v:=.agg (seg vs fo n).toArray) (w':=w) ?_ (m _ _ _ (h.dst (tH (B rfl))));unfold execOp;simp[c,b,Instr.field,run_underlying p,q,asAgg,part,hagg,sizeOf,typeInfo,hi,hoff,j,Abs.seg]
   | false=>
    obtain⟨v,k,l⟩:=C rfl;refine aS (v:=v) (w':=w) ?_ (m _ _ _ (h.dst (tH l)));have:vs[fo]?=some v:=by
     have e:(seg vs fo n)[0]?=some v:=by rw[k];rfl
     simp only[Abs.seg,List.getElem?_take,List.getElem?_drop]at e;rw[if_pos hpos]at e;exact e
    unfold execOp;simp[c,b,Instr.field,run_underlying p,q,asAgg,part,hagg,hoff,this]
  ·cases hv
 ·cases hv
theorem abl{place:Nat->Option (Nat×Nat)}{i:Nat}{off n:Nat}{v:Value}{vs:List Value}{cells:Array Value}{rest:List (Nat×Value)}(b:place i=some (off,n))(hv:v.cells=vs.toArray)
  (a:vs.length=n) (c:off+n<=cells.size):Instr.fill place cells ((i,v)::rest)=Instr.fill place (dw cells.toList off vs).toArray rest:=by
 have e:=abh vs 0 off cells (by omega);simp only[Instr.fill,b,hv];have d:¬(vs.toArray.size≠n\/off+vs.toArray.size>cells.size):=by simp[a];omega
 simp only[Bool.or_eq_true,decide_eq_true_eq,List.size_toArray]at *;rw[if_neg (by simp[a];omega)];congr 1;rw[<- Array.foldl_toList];simpa using e
theorem VP(h:Inv w0 G S a w){fs:List (Nat×Bool×Nat)}:∀ {parts:List (Nat×Operand)} {z cs:List C} {vs:List Value},(eff.fillA fs parts z).val S=some cs->dH G w z vs ->
  ∃us:List Value,dH G w cs us/\Instr.fill ((fs.map fun x=>(x.1,x.2.2)).toArray[·]?) vs.toArray (parts.map fun p=>(p.1,a.eval p.2))=some us.toArray
 | [],z,cs,vs,hv,c=>by
  simp only[eff.fillA,Rd.val,zD]at hv;subst hv;exact⟨vs,c,rfl⟩
 | (i,x)::r,z,cs,vs,hv,c=>by
  simp only[eff.fillA]at hv;split at hv
  ·cases hv
  rename_i fo agg n e;simp only[Rd.aF,zB]at hv;obtain⟨av,f,x',g,hv⟩:=hv;split at hv
  ·rename_i o;have j:=qh g (bg h f);obtain⟨us,d,b⟩:=j.Wv;have q:=b.length;have k:=c.length;obtain⟨us',l,m⟩:=VP h hv (c.dw b fo);refine⟨us',l,?_⟩;rw[<- m];simp only[List.map_cons];rw[abl (n:=n) (off:=fo) (by simp[e]) d (by omega) (by simp;omega)]
  ·cases hv
theorem aiU(h:Inv w0 G S a w){T:TypeId}{parts:Array (Nat×Operand)}(e:o.op=.build T parts){E:Env}(f:E.tt.ok P=true){ws:List W}(hv:(eff E o).val S=some ws)
  (g:∀a' w' G',Inv w0 G' (S.puts ws) a' w'->K a' w'):o.wp P a w K Q:=by
 unfold eff at hv;rw[e]at hv;simp only at hv;split at hv
 ·rename_i z fs j k;obtain⟨i,zv,hi,b,l⟩:=TT.aeu f j;obtain⟨F,m,c⟩:=TT.ag8 f k;simp only[Rd.aF,zB,Rd.val,zD]at hv;obtain⟨cs,n,rfl⟩:=hv;obtain⟨us,d,hfill⟩:=VP h n (nH (G:=G) (w:=w) _ _ l);refine aS (v:=.agg us.toArray) (w':=w) ?_ (g _ _ _ (h.dst (av:=.v (.agg cs)) ⟨us,rfl,d⟩));have p:P.built T (parts.map fun (i,x)=>(i,a.eval x)).toList=some us.toArray:=by
   unfold Program.built;simp only[hi,m,b,c];simpa using hfill
  have:=run_build (P:=P) w T _ _ p;unfold execOp;simp[e,this]
 ·cases hv
end ops
end Go.Abs
namespace Go.Abs
open Go.RowKit
theorem gI{d:Nat}{os:List O}{S:St}{ws:List W}(h:(fresh d os).val S=some ws):S.aJ d=[]/\ws=[.o d os]:=by
 simp only[fresh,Rd.val]at h;split at h
 ·rename_i a;simp only[Rd.val,zD]at h;exact⟨a,h.symm⟩
 ·cases h
theorem fK(S:St)(a b:List W):S.puts (a++b)=(S.puts a).puts b:=by
 induction a generalizing S with
 | nil=>rfl
 | cons x r ih=>exact ih _
theorem lF{q:Nat×Nat}{r:List (Nat×Nat)}(h:nodupB (q::r)=true):q∉r/\nodupB r=true:=by
 simp only[nodupB,zI,Bool.not_eq_true',List.any_eq_false,zI,beq_iff_eq,not_and]at h;refine⟨fun a=>?_,h.2⟩;exact h.1 q a rfl rfl
section ops
variable {P:Program} {w0:Bs} {G:Gh} {S:St} {a:Act} {w:World}
structure More(G G':Gh)(A:Nat->Nat->Prop):Prop where
 ow:G'.ow=G.ow
 ov:G'.ov=G.ov
 bk:G'.bk=G.bk
 lk:G'.lk=G.lk
 lb:G'.lb=G.lb
 s:∀b o,G'.S b o↔(G.S b o\/A b o)
theorem More.mv{G':Gh}{A:Nat->Nat->Prop}(h:More G G' A)(w:World):Mv G G' w w:=
 ⟨fun b o a=>⟨(h.s b o).2 (.inl a),rfl⟩,fun k c=>⟨by rw[h.lk];exact c,fun j=>by rw[h.ov]⟩,fun i hi=>⟨by rw[h.lb];exact hi,by rw[h.bk]⟩⟩
theorem Inv.EP(h:Inv w0 G S a w)(k j:Nat):∃G',Inv w0 G' (S.put (.ro k j)) a w/\More G G' (AK G S [(k,j)]):=by
 let G':Gh:={ G with S:=fun b o=>G.S b o\/AK G S [(k,j)] b o };have hmore:More G G' (AK G S [(k,j)]):=⟨rfl,rfl,rfl,rfl,rfl,fun b o=>Iff.rfl⟩;have p:=hmore.mv w;have A:∀b o,AK G S [(k,j)] b o->G.ow b=some (.own k j):=by
  rintro b o ⟨k',j',t,xs,deep,m,hmem,_,f,_⟩;simp only[List.mem_singleton,Prod.mk.injEq]at hmem;rw[hmem.1,hmem.2]at f;exact f
 refine⟨G',⟨h.below,h.nodef,h.tsz,by simp[St.put,St.di,h.bsz],by simp[St.put,St.di,h.osz],fun i v hv=>(h.tmps i v hv).move p,h.olt,?_,?_,?_,?_,h.lb,fun b o c B=>c.elim (fun c=>h.sfr b o c B) fun c=>absurd (h.nM (A b o c)).1 (by omega),h.fx⟩,hmore⟩
 ·intro b o c;rcases c with c | c
  ·exact h.sok b o c
  ·have:=A b o c;exact⟨(h.olt _ _ this).2,fun i e=>by rw[this]at e;cases e⟩
 ·intro i cs C;obtain⟨f,vs,E,hh,H⟩:=h.box i cs C;exact⟨f,vs,E,hh,H.move p⟩
 ·intro k' j';show wO G' w k' j' (bC ((S.di k ((S.aJ k).set j (bC (S.aJ k) j).EP)).aJ k') j')
  rw[bH];have keep:(k',j')≠(k,j)->wO G' w k' j' (bC (S.aJ k') j'):=fun q=>
   (h.owns k' j').same (G':=G') rfl p.s (fun t xs deep m g=>⟨fun b d=>⟨d,rfl⟩,fun b len cap hv d o c=>by
    rcases c with c | c
    ·exact .inl c
    ·have D:=A b o c;have r:G.ow b=some (.own k' j'):=d;rw[D]at r;cases r
     exact absurd rfl q⟩) fun t xs g b d=>⟨d,rfl,fun o c=>by
    rcases c with c | c
    ·exact c
    ·have D:=A b o c;have r:G.ow b=some (.own k' j'):=d;rw[D]at r;cases r
     exact absurd rfl q⟩
  have turn:wO G' w k j (bC (S.aJ k) j).EP:=by
   have l:=h.owns k j;cases g:bC (S.aJ k) j with
   | dead=>trivial
   | ro t xs=>rw[g]at l;exact Rep.move l p.s
   | own t xs deep m=>exact h.Ir g [(k,j)] (by simp)
   | tree t xs=>exact h.Qn (by rw[g];rfl) [(k,j)] (by simp)
   | part t xs i=>
    rw[g]at l;refine ja.move l (fun b d=>⟨d,rfl⟩) fun b o d c=>?_
    rcases c with c | ⟨L,M,N,I,O,P,hmem,u,_⟩
    ·exact c
    ·simp only[List.mem_singleton,Prod.mk.injEq]at hmem;rw[hmem.1,hmem.2,g]at u;cases u
   | seg t xs=>rw[g]at l;exact A8.move l p.s fun b d=>⟨d,rfl⟩
  by_cases n:k=k'/\k<S.owns.length
  ·rw[if_pos n,iH];obtain⟨rfl,J⟩:=n;by_cases F:j=j'/\j<(S.aJ k).length
   ·rw[if_pos F];obtain⟨rfl,_⟩:=F;exact turn
   ·rw[if_neg F];by_cases x:j=j'
    ·subst x;have:bC (S.aJ k) j=.dead:=by
      simp only[bC,zE];rw[zJ (by omega)];rfl
     rw[this];trivial
    ·exact keep (by simp[Ne.symm x])
  ·rw[if_neg n];by_cases y:(k',j')=(k,j)
   ·cases y
    have K:S.aJ k=[]:=by
     have:¬k<S.owns.length:=fun B=>n ⟨rfl,B⟩
     simp only[St.aJ,zE];rw[zJ (by omega)];rfl
    rw[K];trivial
   ·exact keep y
 ·intro k' z;show (S.di k ((S.aJ k).set j (bC (S.aJ k) j).EP)).aJ k'≠[]
  rw[bH];split
  ·rename_i n;intro e;have:(S.aJ k).length=0:=by simpa using congrArg List.length e
   exact h.lk k' z (by rw[<- n.1];exact List.eq_nil_of_length_eq_zero this)
  ·exact h.lk k' z
theorem MF(S:St)(k j k' j':Nat):bC ((S.put (.ro k j)).aJ k') j'=if (k,j)=(k',j')then (bC (S.aJ k') j').EP else bC (S.aJ k') j':=by
 show bC ((S.di k ((S.aJ k).set j (bC (S.aJ k) j).EP)).aJ k') j'=_
 rw[bH];by_cases a:k=k'/\k<S.owns.length
 ·rw[if_pos a,iH];obtain⟨rfl,_⟩:=a;by_cases b:j=j'
  ·subst b;simp only[true_and,if_true];split
   ·rfl
   ·have:bC (S.aJ k) j=.dead:=by
     simp only[bC,zE];rw[zJ (by omega)];rfl
    rw[this];rfl
  ·have:¬((k,j)=(k,j')):=by simp[b]
   rw[if_neg (fun e=>b e.1),if_neg this]
 ·rw[if_neg a];split
  ·rename_i e;cases e
   have c:S.aJ k=[]:=by
    have:¬k<S.owns.length:=fun d=>a ⟨rfl,d⟩
    simp only[St.aJ,zE];rw[zJ (by omega)];rfl
   rw[c];rfl
  ·rfl
theorem NI{S:St}{k j d:Nat}(h:S.aJ d=[]):(S.put (.ro k j)).aJ d=[]:=by
 show (S.di k ((S.aJ k).set j (bC (S.aJ k) j).EP)).aJ d=[]
 rw[bH];split
 ·rename_i a;rw[a.1,h];rfl
 ·exact h
theorem Inv.Zg:∀(keys:List (Nat×Nat)) {G:Gh} {S:St},Inv w0 G S a w->nodupB keys=true ->
  ∃G',Inv w0 G' (S.puts (keys.map fun q=>.ro q.1 q.2)) a w/\More G G' (AK G S keys) /\
   (∀k j,bC ((S.puts (keys.map fun q=>.ro q.1 q.2)).aJ k) j=if (k,j)∈keys then (bC (S.aJ k) j).EP else bC (S.aJ k) j) /\
   (∀d,S.aJ d=[]->(S.puts (keys.map fun q=>.ro q.1 q.2)).aJ d=[])
 | [],G,S,h,_=>⟨G,h,⟨rfl,rfl,rfl,rfl,rfl,fun b o=>⟨.inl,fun hh=>hh.elim id fun⟨_,_,_,_,_,_,c,_⟩=>by cases c⟩⟩,fun k j=>by simp[St.puts],fun d hd=>hd⟩
 | (k,j)::r,G,S,h,y=>by
  obtain⟨x,u⟩:=lF y;obtain⟨E,z,f⟩:=h.EP k j;obtain⟨A,B,n,C,D⟩:=Inv.Zg r z u;have hput:∀k' j',(k',j')∈r->bC ((S.put (.ro k j)).aJ k') j'=bC (S.aJ k') j':=fun k' j' c=>by
   rw[MF,if_neg fun e:(k,j)=(k',j')=>x (e▸c)]
  refine⟨A,B,⟨n.ow.trans f.ow,n.ov.trans f.ov,n.bk.trans f.bk,n.lk.trans f.lk,n.lb.trans f.lb,fun b o=>?_⟩,fun k' j'=>?_,fun d hd=>D d (NI hd)⟩
  ·rw[n.s,f.s];constructor
   ·rintro ((v | ⟨k',j',t,xs,deep,m,c,l⟩) | ⟨k',j',t,xs,deep,m,c,l,g,i⟩)
    ·exact .inl v
    ·simp only[List.mem_singleton]at c;exact .inr ⟨k',j',t,xs,deep,m,by rw[c];exact ar,l⟩
    ·rw[hput k' j' c]at l;exact .inr ⟨k',j',t,xs,deep,m,aq _ c,l,by rw[<- f.ow];exact g,by rw[<- f.ov];exact i⟩
   ·rintro (v | ⟨k',j',t,xs,deep,m,c,l,g,i⟩)
    ·exact .inl (.inl v)
    ·rcases ba.1 c with c | c
     ·exact .inl (.inr ⟨k',j',t,xs,deep,m,by simp[c],l,g,i⟩)
     ·exact .inr ⟨k',j',t,xs,deep,m,c,by rw[hput k' j' c];exact l,by rw[f.ow];exact g,by rw[f.ov];exact i⟩
  ·show bC (((S.put (.ro k j)).puts (r.map fun q=>.ro q.1 q.2)).aJ k') j'=_
   rw[C,MF];by_cases c:(k',j')∈r
   ·have:¬((k,j)=(k',j')):=fun e=>x (e▸c)
    rw[if_pos c,if_neg this,if_pos (aq _ c)]
   ·rw[if_neg c];by_cases p:(k,j)=(k',j')
    ·rw[if_pos p,if_pos (by rw[p];exact ar)]
    ·rw[if_neg p,if_neg fun e=>(ba.1 e).elim (fun e=>p e.symm) c]
def rowsOf(G:Gh)(S:St)(c:C)(b:Nat):Prop:=∃k j,c=.own k j/\G.ow b=some (.own k j)/\∃t xs deep m,(bC (S.aJ k) j).vk=.own t xs deep m
theorem Aq:∀ {cs:List C} {dp:Bool},(xq cs).val S=some dp->∀(i:Nat) (c:C),cs[i]?=some c->∃b,(FO c).val S=some b/\(dp=true->b=true)
 | [],dp,_,i,c,a=>by simp at a
 | j::cs,dp,hv,i,c,a=>by
  simp only[xq,Rd.aF,zB,Rd.val,zD]at hv;obtain⟨b,d,b',f,rfl⟩:=hv;cases i with
  | zero=>simp at a;subst a;exact⟨b,d,fun e=>(zI _ _▸e).1⟩
  | succ i=>
   obtain⟨b'',g,h⟩:=Aq f i c (by simpa using a);exact⟨b'',g,fun e=>h (zI _ _▸e).2⟩
theorem YX(h:Inv w0 G S a w){ty:Option Ty}{c:C}{d:D}{v:Value}{b dp:Bool}(hd:(cD ty c).val S=some d)(i:oQ G w c v)(f:(FO c).val S=some b)(q:dp=true->b=true)
  {S':Nat->Nat->Prop} {keys:List (Nat×Nat)} (r:∀x o,(G.S x o\/AK G S keys x o)->S' x o) (A:∀k j,c=.own k j->(k,j)∈keys):Ow w S' dp d v (rowsOf G S c):=by
 cases dp with
 | false=>exact .ro d v _ rfl ((SG h hd i keys A).move fun x o l=>⟨r x o l,rfl⟩)
 | true=>
  have u:=q rfl;subst u;cases c with
  | undef=>cases hd
  | d x=>
   simp only[cD,Rd.val,zD]at hd;subst hd;cases x with
   | list t xs=>simp[FO,Rd.val]at f
   | int k n=>cases i;exact .int k n _
   | bool p=>cases i;exact .bool p _
   | str s=>cases i;exact .str _ _
  | nil=>
   simp only[cD]at hd;split at hd
   ·simp only[Rd.val,zD]at hd;subst hd;rw[show v=_ from i];exact .nil _ _
   ·cases hd
  | own k j=>
   simp only[cD,Rd.val]at hd;simp only[FO,Rd.val]at f;rw[i.2.1];have z:=h.owns k j;split at hd
   ·rename_i t xs deep m g;rw[g]at f z;simp only[Rd.val,zD]at hd f;subst hd;subst f;have:=OwT.ow z;refine (this.move (fun x o l=>⟨r x o (.inl l),rfl⟩) fun _ _=>rfl).sub (fun x y=>⟨k,j,rfl,y,t,xs,true,m,by rw[g];rfl⟩) fun e=>e
   ·rename_i t xs g;rw[g]at f;simp[Rd.val]at f
   ·rename_i t xs g;simp only[Rd.val,zD]at hd;subst hd;have:=OwT.ow (h.aiK (k:=k) (j:=j) (t:=t) (xs:=xs) (deep:=true) (m:=true) (by rw[g];rfl));refine (this.move (fun x o l=>⟨r x o (.inl l),rfl⟩) fun _ _=>rfl).sub (fun x y=>⟨k,j,rfl,y,t,xs,true,true,by rw[g];rfl⟩) fun e=>e
   ·cases hd
   ·cases hd
   ·cases hd
  | ptr b off=>cases hd
end ops
end Go.Abs
namespace Go.Abs
open Go.RowKit
theorem flat_get{α β:Type}(f:α->List β)(n:Nat):∀(xs:List α),(∀x∈xs,(f x).length=n)->∀(i j:Nat) (x:α),xs[i]?=some x->j<n->(xs.flatMap f)[i*n+j]?=(f x)[j]?
 | [],_,i,j,x,h,_=>by simp at h
 | c::xs,a,i,j,x,h,d=>by
  have b:=a c ar;cases i with
  | zero=>
   simp at h;subst h;simp only[List.flatMap_cons,Nat.zero_mul,Nat.zero_add];rw[List.getElem?_append_left (by omega)]
  | succ i=>
   have ih:=flat_get f n xs (fun y e=>a y (aq _ e)) i j x (by simpa using h) d;rw[<- ih];simp only[List.flatMap_cons];rw[List.getElem?_append_right (by rw[b,Nat.succ_mul];omega)];congr 1;rw[b,Nat.succ_mul];omega
theorem flat_length{α β:Type}(f:α->List β)(n:Nat):∀(xs:List α),(∀x∈xs,(f x).length=n)->(xs.flatMap f).length=xs.length*n
 | [],_=>by simp
 | b::xs,a=>by
  rw[List.flatMap_cons,a6,a b ar,flat_length f n xs fun y c=>a y (aq _ c),List.length_cons,Nat.succ_mul];omega
theorem gX:∀ {cs:List C},nodupB (aP cs)=true->∀ {p q k j:Nat},cs[p]?=some (.own k j)->cs[q]?=some (.own k j)->p=q
 | [],_,p,q,k,j,a,_=>by simp at a
 | c::cs,f,p,q,k,j,a,d=>by
  have b:nodupB (aP cs)=true/\∀k j,c=.own k j->(k,j)∉aP cs:=by
   cases c<;>simp only[aP]at f<;>first
    | exact⟨f,fun _ _ e=>by cases e⟩
    | (obtain⟨g,h⟩:=lF f;exact⟨h,fun _ _ e=>by cases e;exact g⟩)
  cases p with
  | zero=>
   simp at a;cases q with
   | zero=>rfl
   | succ q=>simp at d;exact absurd (iO (zG d)) (b.2 k j a)
  | succ p=>
   simp at a;cases q with
   | zero=>simp at d;exact absurd (iO (zG a)) (b.2 k j d)
   | succ q=>simp at d;rw[gX b.1 a d]
theorem U9{i j i' j' n:Nat}(b:j<n)(a:j'<n)(h:i*n+j=i'*n+j'):i=i'/\j=j':=by
 have c:i=i':=by
  have d:(i*n+j) / n=i:=by rw[Nat.mul_comm,Nat.mul_add_div (by omega),Nat.div_eq_of_lt b];omega
  have e:(i'*n+j') / n=i':=by rw[Nat.mul_comm,Nat.mul_add_div (by omega),Nat.div_eq_of_lt a];omega
  rw[<- d,<- e,h]
 subst c;omega
section ops
variable {P:Program} {w0:Bs} {G:Gh} {S:St} {a:Act} {w:World} {o:Oper} {K:Act->World->Prop} {Q:Exit->Act->World->Prop}
theorem Inv.XR(h:Inv w0 G S a w)(d:Nat){t:Ty}{xs:List t.den}{deep m:Bool}{v:Value}(lab:Nat->Prop)(hd:S.aJ d=[])
  (hlab:∀c,lab c->w0.w.heap.size<=c/\c<w.heap.size/\(∀i,G.ow c≠some (.box i))/\∀k' j' t xs deep m,G.ow c=some (.own k' j')->(bC (S.aJ k') j').iq≠.own t xs deep m)
  (f:OwT w G.S deep m t xs v lab) :
  ∃G',Inv w0 G' ((S.di d [.own t xs deep m]).iR d (.v (.one (.own d 0)))) (a.put (some d) v) w:=by
 by_cases e:d<S.tmps.length
 case neg=>
  refine⟨G,?_⟩
  rw[Iq h.tsz e,Bl (by rw[h.osz];exact e),Bj e]
  exact h
 classical
 obtain⟨G',q,s,g,k⟩:=h.XQ d [.own t xs deep m] (fun _=>v) (fun c=>if lab c then some 0 else none) hd e (by simp)
  (fun c j n=>by
   by_cases p:lab c
   ·exact hlab c p
   ·rw[if_neg p]at n;cases n)
  (fun j=>by
   cases j with
   | zero=>
    show OwT w G.S deep m t xs v _
    exact OwT.move f (fun b o l=>⟨l,rfl⟩) (fun b r=>⟨if_pos r,rfl⟩) (fun _ _ _ _ _ o l=>.inl l)
   | succ j=>trivial)
 exact⟨G',q.iR d (av:=.v (.one (.own d 0))) ⟨g,(k 0).symm,(OwT.ow f).one⟩⟩
theorem Oz{t:Ty}:∀ {vs:List V} {xs:List t.den},(afx t vs).val S=some xs->xs.length=vs.length/\(∀v∈vs,v.cells.length=t.size) /\
  ∀(i:Nat) (x:t.den),xs[i]?=some x->∃v,vs[i]?=some v/\∀(j:Nat) (d:D),(t.cells x)[j]?=some d->∃c ty,v.cells[j]?=some c/\(cD ty c).val S=some d
 | [],xs,h=>by
  simp only[afx,Rd.val,zD]at h;subst h;exact⟨rfl,fun v hv=>(by cases hv),fun i x k=>(by simp at k)⟩
 | v::vs,xs,h=>by
  simp only[afx,Rd.aF,zB,Rd.val,zD]at h;obtain⟨x,a,xs',l,rfl⟩:=h;obtain⟨m,n,o⟩:=Oz l;simp only[vEl]at a;split at a
  ·rename_i b;simp only[Rd.aF,zB,Rd.val,zD]at a;obtain⟨ds,p,y,q,r⟩:=a;subst r;refine⟨by simp[m],fun u e=>?_,fun i z f=>?_⟩
   ·rcases ba.1 e with rfl | e
    ·exact b
    ·exact n u e
   ·cases i with
    | zero=>
     simp at f;subst f;refine⟨v,rfl,fun j d hd=>?_⟩;rw[Ty.dA q]at hd;have key:∀(tys:List (Option Ty)) (cs:List C) (ds:List D),(cDs tys cs).val S=some ds->∀(j:Nat) (d:D),ds[j]?=some d->∃c ty,cs[j]?=some c/\(cD ty c).val S=some d:=by
      intro tys;induction tys with
      | nil=>intro cs ds hh j d hd;simp only[cDs,Rd.val,zD]at hh;subst hh;simp at hd
      | cons ty tys ih=>
       intro cs ds hh j d hd;cases cs with
       | nil=>simp only[cDs,Rd.val,zD]at hh;subst hh;simp at hd
       | cons c cs=>
        simp only[cDs,Rd.aF,zB,Rd.val,zD]at hh;obtain⟨A,s,g,w,rfl⟩:=hh;cases j with
        | zero=>simp at hd;subst hd;exact⟨c,ty,rfl,s⟩
        | succ j=>exact ih cs g w j d (by simpa using hd)
     exact key _ _ _ p j d hd
    | succ i=>exact o i z (by simpa using f)
  ·cases a
theorem ahn(h:Inv w0 G S a w){t:Ty}{vs:List V}{xs:List t.den}(y:(afx t vs).val S=some xs){vals:List Value}(z:dH G w (vs.flatMap V.cells) vals)
  {dp:Bool} (l:(xq (vs.flatMap V.cells)).val S=some dp) {S':Nat->Nat->Prop} (A:∀x o,(G.S x o\/AK G S (aP (vs.flatMap V.cells)) x o)->S' x o) :
  ∀(i:Nat) (x:t.den) (j:Nat) (d:D),xs[i]?=some x->(t.cells x)[j]?=some d ->
   ∃c v,(vs.flatMap V.cells)[i*t.size+j]?=some c/\vals[i*t.size+j]?=some v/\Ow w S' dp d v (rowsOf G S c):=by
 intro i x j d m hd;obtain⟨E,n,B⟩:=Oz y;obtain⟨v,hv,hcell⟩:=B i x m;obtain⟨c,ty,p,q⟩:=hcell j d hd;have C:j<t.size:=by
  have:=(zC.1 hd).1;rwa [Ty.aZ]at this
 have f:(vs.flatMap V.cells)[i*t.size+j]?=some c:=by rw[flat_get V.cells t.size vs n i j v hv C];exact p
 obtain⟨hlen,hrep⟩:=z.get;have g:i*t.size+j<vals.length:=by have:=(zC.1 f).1;omega
 have r:=hrep _ c vals[i*t.size+j] f (by simp[g]);obtain⟨b,s,u⟩:=Aq l _ c f;exact⟨c,vals[i*t.size+j],f,by simp[g],YX h q r s u A fun k j' e=>iO (e▸zG f)⟩
theorem Ql(h:Inv w0 G S a w)(sz:Nat):∀ {parts:List (Nat×Operand)} {k:Nat} {vs:List V} {arr:Array Value},(Qm parts k).val S=some vs->(∀v∈vs,v.cells.length=sz)->(k+vs.length)*sz<=arr.size ->
  ∃vals:List Value,dH G w (vs.flatMap V.cells) vals/\Instr.fill (fun i=>some (i*sz,sz)) arr (parts.map fun p=>(p.1,a.eval p.2))=some (dw arr.toList (k*sz) vals).toArray
 | [],k,vs,arr,hv,_,_=>by
  simp only[Qm,Rd.val,zD]at hv;subst hv;exact⟨[],trivial,by simp[Instr.fill,dw]⟩
 | (i,x)::r,k,vs,arr,hv,g,m=>by
  simp only[Qm]at hv;split at hv
  ·rename_i o;subst o;simp only[Rd.aF,zB,Rd.val,zD]at hv;obtain⟨av,C,v,D,vs',E,rfl⟩:=hv;have F:=qh D (bg h C);obtain⟨us,q,j⟩:=F.Wv;have H:=g v ar;have I:=j.length;have s:i*sz+sz<=arr.size:=by
    have:(i+1)*sz<=arr.size:=Nat.le_trans (Nat.mul_le_mul_right _ (by simp)) m;rwa [Nat.succ_mul]at this
   obtain⟨vals,J,K⟩:=Ql h sz (arr:=(dw arr.toList (i*sz) us).toArray) E (fun u b=>g u (aq _ b))
    (by
     have e:=wU arr.toList (i*sz) us (by simp;omega);have L:i+1+vs'.length=i+(vs'.length+1):=by omega
     simp only[List.length_cons]at m;rw[L];show _<=(dw arr.toList (i*sz) us).length
     rw[e];exact m)
   refine⟨us++vals,?_,?_⟩
   ·simp only[List.flatMap_cons];obtain⟨A,M⟩:=j.get;obtain⟨N,O⟩:=J.get;refine dH.mk (by simp only[a6,A,N]) fun p c u l b=>?_
    rw[List.getElem?_append]at l b;split at l
    ·rename_i P;rw[if_pos (by omega)]at b;exact M p c u l b
    ·rename_i P;rw[if_neg (by omega)]at b;rw[A]at l;exact O _ c u l b
   ·simp only[List.map_cons];rw[abl (n:=sz) (off:=i*sz) rfl q (by omega) s,K];congr 1;simp only[dw];have e:(i+1)*sz=i*sz+sz:=Nat.succ_mul _ _;rw[e];have t:us.length=sz:=by omega
    congr 1;apply List.ext_getElem?;intro p;simp only[List.getElem?_append,List.getElem?_take,List.getElem?_drop,a6,a8,Array.length_toList,t];have Q:min (i*sz) arr.size=i*sz:=by omega
    have R:min (i*sz+sz) (i*sz+sz+(arr.size-(i*sz+sz)))=i*sz+sz:=by omega
    simp only[Q,List.length_drop,Array.length_toList,R];by_cases y:p<i*sz
    ·have:p<i*sz+sz:=by omega
     have f:p<i*sz+sz+vals.length:=by omega
     have d:p<i*sz+(sz+vals.length):=by omega
     simp[y,this,f,d]
    ·by_cases B:p<i*sz+sz
     ·have f:p<i*sz+sz+vals.length:=by omega
      have d:p<i*sz+(sz+vals.length):=by omega
      have z:p-i*sz<sz:=by omega
      simp[y,B,f,d,z]
     ·by_cases f:p<i*sz+sz+vals.length
      ·have d:p<i*sz+(sz+vals.length):=by omega
       have z:¬p-i*sz<sz:=by omega
       have T:p-(i*sz+sz)=p-i*sz-sz:=by omega
       simp[y,B,f,d,z,T]
      ·have d:¬p<i*sz+(sz+vals.length):=by omega
       have U:¬(i*sz+sz+vals.length+(p-(i*sz+sz+vals.length))<i*sz):=by omega
       have W:¬(i*sz+sz+vals.length+(p-(i*sz+sz+vals.length))<i*sz+sz):=by omega
       simp only[f,d,U,W,if_false];congr 1;omega
  ·cases hv
theorem TW(h:Inv w0 G S a w){T:TypeId}{n:Nat}{parts:Array (Nat×Operand)}(ho:o.op=.buildSlice T n parts){E:Env}(hT:E.tt.ok P=true){ws:List W}(hv:(eff E o).val S=some ws)
  (hK:∀a' w' G',Inv w0 G' (S.puts ws) a' w'->K a' w'):o.wp P a w K Q:=by
 unfold eff at hv;rw[ho]at hv;simp only at hv;split at hv
 ·rename_i d t hd ht;obtain⟨e,inf,z,hu,hi,u,hby,hz,hzs,hzm⟩:=TT.jw hT ht;simp only[Rd.aF,zB]at hv;obtain⟨vs,h1,hv⟩:=hv;split at hv
  ·rename_i F;simp only[Rd.aF,zB]at hv;obtain⟨xs,h2,dp,h3,hv⟩:=hv;split at hv
   ·rename_i I;simp only[Rd.aF,zB,Rd.val,zD]at hv;obtain⟨ws',h4,rfl⟩:=hv;obtain⟨X,rfl⟩:=gI h4;obtain⟨J,hvsz,_⟩:=Oz h2;let arr0:Array Value:=(Array.range (n*t.size)).map (fun m=>(if n*t.size=0 then (#[]:Array Value)else z.cells)[m % (if n*t.size=0 then (#[]:Array Value)else z.cells).size]!);have harr0:arr0.size=n*t.size:=by simp[arr0]
    obtain⟨vals,hvals,hfill⟩:=Ql h t.size (arr:=arr0) h1 hvsz (by rw[Nat.zero_add,F.1,harr0];exact aw _);have L:vals.length=n*t.size:=by rw[<- hvals.length,flat_length V.cells t.size vs hvsz,F.1]
    have hset:dw arr0.toList (0*t.size) vals=vals:=by
     simp[dw,L,harr0]
    rw[hset]at hfill;obtain⟨Y,Z,M,e5,n5⟩:=Inv.Zg (aP (vs.flatMap V.cells)) h I;have hbel:Below w.heap.size w (w.alloc (.cells vals.toArray e)):=(Below.refl _ _).alloc (aw _) _;have h6:=Z.grow hbel;have hnew:=heap_alloc_new w (.cells vals.toArray e);have hO:OwT (w.alloc (.cells vals.toArray e)) Y.S dp true t xs (.slice (some ⟨w.heap.size,0,none⟩) n n)
      (fun c=>c=w.heap.size\/∃(p:Nat) (cc:C),(vs.flatMap V.cells)[p]?=some cc/\rowsOf G S cc c):=by
     have N:=ahn h h2 hvals h3 (S':=Y.S) fun x o H=>(M.s x o).2 H
     refine .inr ⟨w.heap.size,n,vals.toArray,e,fun i j=>vals.getD (i*t.size+j) undef,
      fun i j c=>j<t.size/\i<xs.length/\∃cc:C,(vs.flatMap V.cells)[i*t.size+j]?=some cc/\rowsOf G S cc c,?_,hnew,?_,?_,?_,.inl rfl,?_,?_,?_,?_,?_⟩
     ·rw[J,F.1]
     ·rw[J,F.1];exact aw _
     ·have:=F.2;have hp:=t.size_pos;have:n<=n*t.size:=Nat.le_mul_of_pos_right _ hp;unfold maxLen;omega
     ·simp[L]
     ·intro i x j dd y A;obtain⟨c,v,_,hv,_⟩:=N i x j dd y A;simp only[List.getElem?_toArray,zE,hv,Option.getD_some]
     ·intro i x j dd y A;obtain⟨c,v,hc,hv,hw⟩:=N i x j dd y A;have hj:j<t.size:=by
       have:=(zC.1 A).1;rwa [Ty.aZ]at this
      simp only[zE,hv,Option.getD_some];refine (hw.move (S':=Y.S) (fun x o H=>⟨H,hbel.cell (p:=⟨x,o,none⟩) (Z.sok x o H).1⟩) fun c' D=>?_).sub (fun c' D=>⟨hj,(zC.1 y).1,c,hc,D⟩) fun e=>e
      obtain⟨k,jj,_,b,_⟩:=D;exact hbel.block _ (h.olt _ _ b).2
     ·rintro i j c ⟨_,_,cc,q,hrow⟩;refine⟨.inr ⟨_,cc,q,hrow⟩,?_⟩;obtain⟨k,jj,_,b,_⟩:=hrow;have:=(h.olt _ _ b).2;omega
     ·rintro i j i' j' c ⟨hj,hi',cc,q,k,l,rfl,b,_⟩ ⟨hj',_,cc',R,k',l',rfl,B,_⟩;rw[b]at B;cases B
      exact U9 hj hj' (gX I q R)
     ·intro oo H;exact absurd (Z.sok _ oo H).1 (Nat.lt_irrefl _)
    obtain⟨G2,h7⟩:=h6.XR d (v:=.slice (some ⟨w.heap.size,0,none⟩) n n) (fun c=>c=w.heap.size\/∃(p:Nat) (cc:C),(vs.flatMap V.cells)[p]?=some cc/\rowsOf G S cc c) (n5 d X) (fun c hc=>by
     rcases hc with rfl | ⟨p,cc,q,k,jj,rfl,b,t',xs',deep',m',hown⟩
     ·refine⟨h.below.size,by simp,fun i r=>?_,fun k' j' _ _ _ _ r=>?_⟩
      ·rw[M.ow]at r;exact absurd (h.olt _ _ r).2 (Nat.lt_irrefl _)
      ·rw[M.ow]at r;exact absurd (h.olt _ _ r).2 (Nat.lt_irrefl _)
     ·have hlt:=h.nM b;refine⟨hlt.1,by simp;omega,fun i r=>?_,fun k' j' t2 xs2 d2 m2 r=>?_⟩
      ·rw[M.ow,b]at r;cases r
      ·rw[M.ow,b]at r;cases r
       rw[e5,if_pos (iO (zG q))];exact O.OJ hown _ _ _ _) hO
    refine aS (v:=.slice (some ⟨w.heap.size,0,none⟩) n n) (w':=w.alloc (.cells vals.toArray e)) ?_ (hK _ _ G2 ?_)
    ·have g:Instr.fill (fun i=>some (i*inf.size,inf.size)) arr0 (parts.toList.map fun p=>(p.1,a.eval p.2))=some vals.toArray:=by rw[u];exact hfill
     unfold execOp;simp only[ho,Instr.buildSlice,Sem.run_bind,run_underlying hu,Result.andThen_ok,sizeOf,typeInfo,run_program,hi,Sem.run_pure,u];have hle:¬n*t.size>2 ^ 24:=by have:=F.2;omega
     simp only[hle,if_false];have e0:∀f:Nat->Value,Array.map f (Array.range 0) = #[]:=fun f=>Array.eq_empty_of_size_eq_zero (by simp)
     by_cases U:n*t.size=0
     ·simp only[U,if_true];simp only[arr0,U,if_true,e0]at g;rw[u]at g;simp[g,newRow,e0]
     ·simp only[U,if_false,Sem.run_bind,zeroValue,typeInfo,run_program,Result.andThen_ok,hi,Sem.run_pure,hz];simp only[arr0,U,if_false]at g;rw[u]at g;simp[g,newRow]
    ·rw[hd,fK,fK];exact h7
   ·cases hv
  ·cases hv
 ·cases hv
end ops
end Go.Abs
namespace Go.Abs
open Go.RowKit
theorem U6{w:World}{S:Nat->Nat->Prop}{dp:Bool}{fp:Nat->Prop}:∀(ds:List D) (vs:List Value),mD (ds.map .d) vs=true->∀(j:Nat) (d:D) (v:Value),ds[j]?=some d->vs[j]?=some v->Ow w S dp d v fp
 | [],vs,_,j,d,v,hd,_=>by simp at hd
 | g::ds,[],h,j,d,v,_,hv=>by simp at hv
 | g::ds,v0::vs,h,j,d,v,hd,hv=>by
  have key:Ow w S dp g v0 fp/\mD (ds.map .d) vs=true:=by
   simp only[List.map_cons]at h;unfold mD at h;split at h
   ·simp_all
   ·rename_i k n cs' k' n' vs' a c;cases c
    injection a with a e;injection a with a;subst a;subst e;simp only[zI,decide_eq_true_eq]at h;obtain⟨⟨rfl,rfl⟩,f⟩:=h;exact⟨.int _ _ _,f⟩
   ·rename_i b cs' b' vs' a c;cases c
    injection a with a e;injection a with a;subst a;subst e;simp only[zI,beq_iff_eq]at h;obtain⟨rfl,f⟩:=h;exact⟨.bool _ _,f⟩
   ·rename_i s cs' v' vs' a c;cases c
    injection a with a e;injection a with a;subst a;subst e;simp only[zI,decide_eq_true_eq]at h;obtain⟨rfl,f⟩:=h;exact⟨.str _ _,f⟩
   ·rename_i cs' vs' a c;injection a with a e;cases a
   ·rename_i t cs' vs' a c;cases c
    injection a with a e;injection a with a;subst a;subst e;exact⟨.nil _ _,h⟩
   ·cases h
  cases j with
  | zero=>simp at hd hv;subst hd;subst hv;exact key.1
  | succ j=>exact U6 ds vs key.2 j d v (by simpa using hd) (by simpa using hv)
section ops
variable {P:Program} {w0:Bs} {G:Gh} {S:St} {a:Act} {w:World} {o:Oper} {K:Act->World->Prop} {Q:Exit->Act->World->Prop}
theorem XC(h:Inv w0 G S a w){T:TypeId}{l c:Operand}(J:o.op=.makeSlice T l c){E:Env}(O:E.tt.ok P=true){ws:List W}(hv:(eff E o).val S=some ws)
  (R:∀a' w' G',Inv w0 G' (S.puts ws) a' w'->K a' w'):o.wp P a w K Q:=by
 unfold eff at hv;rw[J]at hv;simp only at hv;split at hv
 ·rename_i d t hd U;obtain⟨e,inf,z,V,hi,p,X,Y,r,s⟩:=TT.jw O U;split at hv
  ·rename_i i j;split at hv
   ·rename_i u;subst u;simp only[Rd.aF,zB,Rd.val,zD]at hv;obtain⟨av,L,n,h2,m,q,ws',h4,rfl⟩:=hv;obtain⟨kk,hn⟩:=tJ h2 (bg h L);obtain⟨y,rfl⟩:=gI h4;unfold mk at q;split at q
    case isFalse=>cases q
    rename_i A;simp only[zD]at q;subst q;have hwrap:IntKind.i64.wrap n=n:=IntWalk.i64_in (by omega) (by omega);let Z:Array Value:=if n.toNat*t.size=0 then #[]else z.cells
    let arr:Array Value:=(Array.range (n.toNat*t.size)).map (fun m=>Z[m % Z.size]!);have hbel:Below w.heap.size w (w.alloc (.cells arr e)):=(Below.refl _ _).alloc (aw _) _;have h6:=h.grow hbel;have hnew:=heap_alloc_new w (.cells arr e);have hp:=t.size_pos;have hO:OwT (w.alloc (.cells arr e)) G.S true true t (List.replicate n.toNat t.zero) (.slice (some ⟨w.heap.size,0,none⟩) n.toNat n.toNat) (fun c=>c=w.heap.size):=by
     refine .inr ⟨w.heap.size,n.toNat,arr,e,fun _ j=>z.cells.toList.getD j undef,fun _ _ _=>False,by simp,hnew,by simp,?_,by simp[arr],rfl,?_,?_,?_,?_,?_⟩
     ·unfold maxLen;omega
     ·intro i x j dd k b;have B:i<n.toNat:=by have:=(zC.1 k).1;simpa using this
      have M:j<t.size:=by
       have:=(zC.1 b).1;rwa [Ty.aZ]at this
      have C:i*t.size+j<n.toNat*t.size:=by
       have:(i+1)*t.size<=n.toNat*t.size:=Nat.mul_le_mul_right _ B;rw[Nat.succ_mul]at this;omega
      have hZ:Z=z.cells:=if_neg (by omega);have hmod:(i*t.size+j) % t.size=j:=by rw[Nat.mul_comm,Nat.mul_add_mod,Nat.mod_eq_of_lt M]
      have g:j<z.cells.size:=by omega
      simp[arr,C,hZ,r,hmod];rw[getElem!_pos z.cells j g,getElem?_pos z.cells j g];rfl
     ·intro i x j dd k b;have D:x=t.zero:=by
       have:=zG k;exact (List.mem_replicate.1 this).2
      subst D;have M:j<t.size:=by
       have:=(zC.1 b).1;rwa [Ty.aZ]at this
      have g:j<z.cells.toList.length:=by simp;omega
      exact U6 _ _ s j dd _ b (by show z.cells.toList[j]?=some (z.cells.toList.getD j undef);rw[zE,zF g];rfl)
     ·intro _ _ _ F;exact F.elim
     ·intro _ _ _ _ _ F;exact F.elim
     ·intro oo hs;exact absurd (h.sok _ oo hs).1 (Nat.lt_irrefl _)
    obtain⟨G2,h7⟩:=h6.XR d (v:=.slice (some ⟨w.heap.size,0,none⟩) n.toNat n.toNat) (fun c=>c=w.heap.size) y (fun c hc=>by
     subst hc;exact⟨h.below.size,by simp,fun i H=>absurd (h.olt _ _ H).2 (Nat.lt_irrefl _),fun k' j' _ _ _ _ H=>absurd (h.olt _ _ H).2 (Nat.lt_irrefl _)⟩) hO
    refine aS (v:=.slice (some ⟨w.heap.size,0,none⟩) n.toNat n.toNat) (w':=w.alloc (.cells arr e)) ?_ (R _ _ G2 ?_)
    ·have hb2:(inf.bytes:Int)*n<=140737488355328:=by
      have L:(inf.bytes:Int)*n<=4096*n:=Int.mul_le_mul_of_nonneg_right (by omega) A.1;omega
     have I:(decide (n<0)||decide ((inf.bytes:Int)*n>2 ^ 48))=false:=by
      simp only[Bool.or_eq_false_iff,decide_eq_false_iff_not];omega
     unfold execOp;simp only[J,Instr.makeSlice,Sem.run_bind,run_underlying V,Result.andThen_ok,hn,asInt,asIntOf,Sem.run_pure,typeInfo,run_program,hi,hwrap,I,sizeOf];have h0n:¬n<0:=by omega
     simp only[h0n,decide_false,Bool.false_or,gt_iff_lt,Int.lt_irrefl,aE,if_false];have e0:∀f:Nat->Value,Array.map f (Array.range 0) = #[]:=fun f=>Array.eq_empty_of_size_eq_zero (by simp)
     by_cases N:n.toNat*t.size=0
     ·simp[N,e0,newRow,arr,hi,p]
     ·simp[N,zeroValue,typeInfo,hi,Y,p,newRow,arr,Z]
    ·rw[hd];exact h7
   ·cases hv
  ·cases hv
 ·cases hv
end ops
end Go.Abs
namespace Go.Abs
open Go.RowKit
section ops
variable {P:Program} {w0:Bs} {G:Gh} {S:St} {a:Act} {w:World} {o:Oper} {K:Act->World->Prop} {Q:Exit->Act->World->Prop}
theorem Bh{n p:Nat}:p=p / n*n+p % n:=by
 have:=Nat.div_add_mod p n;rw[Nat.mul_comm]at this;omega
theorem yt{i j n m:Nat}(hi:i<m)(a:j<n):i*n+j<m*n:=by
 have:(i+1)*n<=m*n:=Nat.mul_le_mul_right _ hi;rw[Nat.succ_mul]at this;omega
theorem Jo{t:Ty}{xs:List t.den}{p:Nat}(b:p<xs.length*t.size):∃x d,xs[p / t.size]?=some x/\(t.cells x)[p % t.size]?=some d:=by
 have c:=t.size_pos;have hi:p / t.size<xs.length:=Nat.div_lt_of_lt_mul (by rw[Nat.mul_comm];exact b);have e:p % t.size<t.size:=Nat.mod_lt _ c;have a:p % t.size<(t.cells xs[p / t.size]).length:=by rw[Ty.aZ];exact e
 exact⟨xs[p / t.size],(t.cells xs[p / t.size])[p % t.size],by simp[hi],by simp[a]⟩
theorem OwT.laid{S:Nat->Nat->Prop}{deep m:Bool}{t:Ty}{xs:List t.den}{v:Value}{fp:Nat->Prop}(h:OwT w S deep m t xs v fp) :
  (v=.slice none 0 0/\xs=[])\/∃b cap arr E rest cells,v=.slice (some ⟨b,0,none⟩) xs.length cap/\w.heap[b]?=some (.cells arr E (0,0))/\xs.length<=cap/\cap<=maxLen/\arr.size=cap*t.size/\fp b /\
   arr.toList=cells++rest/\mr w S deep t xs cells (fun c=>fp c/\c≠b)/\(∀o,S b o->m=false/\o<xs.length*t.size):=by
 rcases h with h | ⟨b,cap,arr,E,vs,fps,rfl,q,hcap,hmax,f,k,r,l,s,hdis,u⟩
 ·exact .inl h
 ·have y:xs.length*t.size<=arr.toList.length:=by
   have e:arr.toList.length=arr.size:=Array.length_toList;rw[e,f];exact Nat.mul_le_mul_right _ hcap
  have hcell:∀(i:Nat) (x:t.den) (j:Nat) (d:D),xs[i]?=some x->(t.cells x)[j]?=some d->(arr.toList.take (xs.length*t.size))[i*t.size+j]?=some (vs i j):=by
   intro i x j d a hd;have hi:i<xs.length:=(zC.1 a).1;have z:j<t.size:=by
    have:=(zC.1 hd).1;rwa [Ty.aZ]at this
   rw[List.getElem?_take,if_pos (yt hi z)];simpa using r i x j d a hd
  refine .inr ⟨b,cap,arr,E,arr.toList.drop (xs.length*t.size),arr.toList.take (xs.length*t.size),rfl,q,hcap,hmax,f,k,(List.take_append_drop _ _).symm,⟨?_,?_,vs,fps,fun i x j d a hd=>⟨hcell i x j d a hd,l i x j d a hd⟩,s,hdis⟩,u⟩
  ·rw[a8];omega
  ·intro v hv;obtain⟨p,g,rfl⟩:=List.mem_iff_getElem.1 hv;have A:=g;rw[a8]at A;obtain⟨x,d,a,hd⟩:=Jo (t:=t) (xs:=xs) (p:=p) (by omega);have e:=hcell _ _ _ _ a hd;rw[<- Bh (n:=t.size)]at e;have B:(arr.toList.take (xs.length*t.size))[p]?=some (arr.toList.take (xs.length*t.size))[p]:=zF g;rw[B]at e;rw[aR e];exact (l _ _ _ _ a hd).one
theorem ML{w':World}{S S':Nat->Nat->Prop}{deep dp m:Bool}{t:Ty}{xs ys:List t.den}{olds news rest:List Value}{labD labS:Nat->Prop}
  (F:mr w S deep t xs olds labD) (G:mr w S dp t ys news labS) (l:∀c,labD c->labS c->False)
  {g cap:Nat} {arr:Array Value} {E:TypeId} (H:w'.heap[g]?=some (.cells arr E (0,0))) (harr:arr.toList=olds++news++rest) (hcap:xs.length+ys.length<=cap) (hmax:cap<=maxLen) (r:arr.size=cap*t.size)
  {lab:Nat->Prop} (I:lab g) (n:∀c,labD c\/labS c->lab c/\c≠g/\w'.heap[c]?=w.heap[c]?) (A:∀b o,S b o->S' b o/\w'.cell? ⟨b,o,none⟩=w.cell? ⟨b,o,none⟩)
  (J:∀o,S' g o->m=false/\o<(xs.length+ys.length)*t.size) :
  OwT w' S' (deep&&dp) m t (xs++ys) (.slice (some ⟨g,0,none⟩) (xs.length+ys.length) cap) lab:=by
 obtain⟨K,O,s,fps1,B,p,L⟩:=F;obtain⟨P,Q,u,fps2,C,q,M⟩:=G;refine .inr ⟨g,cap,arr,E,fun i j=>if i<xs.length then s i j else u (i-xs.length) j,fun i j c=>if i<xs.length then fps1 i j c else fps2 (i-xs.length) j c,by rw[a6],H,by rw[a6];exact hcap,hmax,r,I,?_,?_,?_,?_,?_⟩
 ·intro i x j d k hd;have D:j<t.size:=by
   have:=(zC.1 hd).1;rwa [Ty.aZ]at this
  rw[<- Array.getElem?_toList,harr];by_cases hi:i<xs.length
  ·rw[List.getElem?_append_left hi]at k;have v:=(B i x j d k hd).1;have y:=yt hi D;rw[a7,List.getElem?_append_left (by omega),v];simp[hi]
  ·rw[List.getElem?_append_right (by omega)]at k;have v:=(C (i-xs.length) x j d k hd).1;have z:i-xs.length<ys.length:=(zC.1 k).1;have y:=yt z D;have e:i*t.size+j=xs.length*t.size+((i-xs.length)*t.size+j):=by
    rw[<- Nat.add_assoc,<- Nat.add_mul];congr 2;omega
   rw[a7,List.getElem?_append_right (by omega),List.getElem?_append_left (by omega),K,e,Nat.add_sub_cancel_left,v];simp[hi]
 ·intro i x j d k hd;by_cases hi:i<xs.length
  ·rw[List.getElem?_append_left hi]at k;simp only[hi,if_true];exact ((B i x j d k hd).2.move A fun c a=>(n c (.inl (p i j c a))).2.2).sub (fun _ a=>a) fun e=>(zI _ _▸e).1
  ·rw[List.getElem?_append_right (by omega)]at k;simp only[hi,if_false];exact ((C _ x j d k hd).2.move A fun c a=>(n c (.inr (q _ j c a))).2.2).sub (fun _ a=>a) fun e=>(zI _ _▸e).2
 ·intro i j c a;by_cases hi:i<xs.length
  ·simp only[hi,if_true]at a;have:=n c (.inl (p i j c a));exact⟨this.1,this.2.1⟩
  ·simp only[hi,if_false]at a;have:=n c (.inr (q _ j c a));exact⟨this.1,this.2.1⟩
 ·intro i j i' j' c a f;by_cases hi:i<xs.length
  ·simp only[hi,if_true]at a;by_cases h:i'<xs.length
   ·simp only[h,if_true]at f;exact L _ _ _ _ _ a f
   ·simp only[h,if_false]at f;exact (l c (p _ _ _ a) (q _ _ _ f)).elim
  ·simp only[hi,if_false]at a;by_cases h:i'<xs.length
   ·simp only[h,if_true]at f;exact (l c (p _ _ _ f) (q _ _ _ a)).elim
   ·simp only[h,if_false]at f;have:=M _ _ _ _ _ a f;omega
 ·intro oo N;rw[a6];exact J oo N
theorem wH{t:Ty}(b:t.flat=true){x:t.den}{j:Nat}{d:D}(hd:(t.cells x)[j]?=some d):kU d=none:=by
 have a:((t.cells x).map kU)[j]?=some (kU d):=by simp[hd]
 rw[OA]at a;have:=List.all_eq_true.1 b _ (zG a);simpa using this
theorem JQ{S S':Nat->Nat->Prop}{dp:Bool}{d:D}{v:Value}{fp:Nat->Prop}(hd:kU d=none)(h:Rep w S d v):Ow w S' dp d v fp:=by
 cases h with
 | int k n=>exact .int k n fp
 | bool b=>exact .bool b fp
 | str s=>exact .str s fp
 | nil t=>cases hd
 | emp t a cap=>cases hd
 | list t xs b off cap vs hcap c e=>cases hd
theorem HY(h:Inv w0 G S a w){t:Ty}{ys:List t.den}{c:C}{v:Value}{dp:Bool}(hd:(cD (some t) c).val S=some (.list t ys))(F:oQ G w c v)
  (l:((if t.flat then Rd.ret true else FO c)).val S=some dp) {S':Nat->Nat->Prop} (R:∀x o,(G.S x o\/AK G S (aP [c]) x o)->S' x o) :
  ((∃(ad:Option Addr) (cap:Nat),v=.slice ad 0 cap/\(ad=none->cap=0))/\ys=[])\/∃b off cap news,v=.slice (some ⟨b,off,none⟩) ys.length cap/\(∀p u,news[p]?=some u->w.cell? ⟨b,off+p,none⟩=some u) /\
   mr w S' dp t ys news (fun x=>t.flat=false/\rowsOf G S c x):=by
 have hrep:=SG h hd F (aP [c]) (fun k j e=>by subst e;simp[aP]);generalize r:D.list t ys=dd at hrep;cases hrep with
 | int=>cases r
 | bool=>cases r
 | str=>cases r
 | nil t'=>cases r;exact .inl ⟨⟨none,0,rfl,fun _=>rfl⟩,rfl⟩
 | emp t' ad cap=>cases r;exact .inl ⟨⟨some ad,cap,rfl,fun hh=>(by cases hh)⟩,rfl⟩
 | list t' xs' b off cap vs hcap z I=>
  cases r
  have hnews:∀(p:Nat) (u:Value),((List.range (ys.length*t.size)).map fun p=>vs (p / t.size) (p % t.size))[p]?=some u->p<ys.length*t.size/\u=vs (p / t.size) (p % t.size):=by
   intro p u y;simp only[List.getElem?_map,Option.map_eq_some_iff]at y;obtain⟨q,J,rfl⟩:=y;have g:p<ys.length*t.size:=by have:=(zC.1 J).1;simpa using this
   have:q=p:=by simp[g]at J;exact J.symm
   rw[this];exact⟨g,rfl⟩
  have hget:∀(i j:Nat),i<ys.length->j<t.size->((List.range (ys.length*t.size)).map fun p=>vs (p / t.size) (p % t.size))[i*t.size+j]?=some (vs i j):=by
   intro i j hi A;have g:=yt hi A;have s:(i*t.size+j) / t.size=i:=by rw[Nat.mul_comm,Nat.mul_add_div t.size_pos,Nat.div_eq_of_lt A];omega
   have T:(i*t.size+j) % t.size=j:=by rw[Nat.mul_comm,Nat.mul_add_mod,Nat.mod_eq_of_lt A]
   simp[g,s,T]
  refine .inr ⟨b,off,cap,(List.range (ys.length*t.size)).map fun p=>vs (p / t.size) (p % t.size),rfl,?_,by simp,?_,?_⟩
  ·intro p u y;obtain⟨g,rfl⟩:=hnews p u y;obtain⟨x,d,m,f⟩:=Jo (t:=t) (xs:=ys) g;have:=(z _ _ _ _ m f).1;rw[<- Bh (n:=t.size)]at this;exact this
  ·intro u y;obtain⟨p,H⟩:=List.mem_iff_getElem?.1 y;obtain⟨g,rfl⟩:=hnews p u H;obtain⟨x,d,m,f⟩:=Jo (t:=t) (xs:=ys) g;exact (I _ _ _ _ m f).one
  ·by_cases K:t.flat=true
   ·refine⟨vs,fun _ _ _=>False,fun i x j d m f=>⟨hget i j (zC.1 m).1 (by have:=(zC.1 f).1;rwa [Ty.aZ]at this),JQ (wH K f) (I _ _ _ _ m f)⟩,fun _ _ _ hh=>hh.elim,fun _ _ _ _ _ hh=>hh.elim⟩
   ·have L:t.flat=false:=by simpa using K
    rw[if_neg K]at l;cases dp with
    | false=>
     exact⟨vs,fun _ _ _=>False,fun i x j d m f=>⟨hget i j (zC.1 m).1 (by have:=(zC.1 f).1;rwa [Ty.aZ]at this),.ro _ _ _ rfl ((I _ _ _ _ m f).move fun x o M=>⟨R x o M,rfl⟩)⟩,fun _ _ _ hh=>hh.elim,fun _ _ _ _ _ hh=>hh.elim⟩
    | true=>
     cases c with
     | undef=>cases hd
     | d x=>
      simp only[cD,Rd.val,zD]at hd;subst hd;simp[FO,Rd.val]at l
     | nil=>
      have:Value.slice (some ⟨b,off,none⟩) ys.length cap=.slice none 0 0:=F;cases this
     | ptr b' off'=>cases hd
     | own k j=>
      simp only[FO,Rd.val]at l;simp only[cD,Rd.val]at hd;have hcore:∀ {m':Bool},(bC (S.aJ k) j).vk=.own t ys true m'->∃(B:Nat->Nat->Value) (fps:Nat->Nat->Nat->Prop),(∀(i:Nat) (x:t.den) (j':Nat) (d:D),ys[i]?=some x->(t.cells x)[j']?=some d ->
        ((List.range (ys.length*t.size)).map fun p=>vs (p / t.size) (p % t.size))[i*t.size+j']?=some (B i j')/\Ow w S' true d (B i j') (fps i j'))/\(∀i j' c,fps i j' c->t.flat=false/\rowsOf G S (C.own k j) c)/\∀i j' i' j'' c,fps i j' c->fps i' j'' c->i=i'/\j'=j'':=by
       intro m' hown;have V:=h.aiK hown;rcases V with ⟨H,_⟩ | ⟨b',cap',arr,e,vs',fps',E,N,hcap',_,_,_,O,P,Q,hdis',_⟩
       ·rw[<- F.2.1]at H;cases H
       ·rw[<- F.2.1]at E;injection E with s T X;injection s with s;injection s with s W _;subst s;subst W;refine⟨vs,fun i j c=>fps' i j c,fun i x j' d m f=>?_,fun i j' c hh=>⟨L,k,j,rfl,(Q i j' c hh).1,_,_,_,_,hown⟩,hdis'⟩;have A:j'<t.size:=by
         have:=(zC.1 f).1;rwa [Ty.aZ]at this
        refine⟨hget i j' (zC.1 m).1 A,?_⟩;have ee:vs i j'=vs' i j':=by
         have U:=(z i x j' d m f).1;rw[Nat.zero_add,cell_of_row w _ _ _ _ _ N,O i x j' d m f]at U;exact (aR U).symm
        rw[ee];exact (P i x j' d m f).move (fun x o M=>⟨R x o (.inl M),rfl⟩) fun _ _=>rfl
      split at l
      ·rename_i t' xs' deep' m' hown;simp only[Rd.val,zD]at l;subst l;rw[hown]at hd;simp only[Rd.val,zD]at hd;cases hd
       exact hcore (m':=m') (by rw[hown];rfl)
      ·rename_i t' xs' hown;rw[hown]at hd;simp only[Rd.val,zD]at hd;cases hd
       exact hcore (m':=true) (by rw[hown];rfl)
      ·simp[Rd.val]at l
end ops
end Go.Abs
