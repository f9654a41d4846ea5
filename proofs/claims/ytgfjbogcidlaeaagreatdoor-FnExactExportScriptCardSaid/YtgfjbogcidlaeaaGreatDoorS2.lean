import Derived.Test.YtgfjbogcidlaeaaGreatDoorS1
import Derived.Laws.BytesString
/- Operations: arithmetic, strings, structs, new lists. -/
set_option linter.unusedSimpArgs false
set_option linter.unusedVariables false
namespace Go.Abs
open Go.RowKit
section ops
variable {P : Program} {w0 : Bs} {G : Gh} {S : St} {a : Act} {w : World} {o : Oper} {K : Act -> World -> Prop} {Q : Exit -> Act -> World -> Prop}
theorem SQ {op : BinOp} {T : TypeId} {x y : Operand} {d : D} {u v : Value} (hu : Rep w G.S d u) : (eqGuard op T x y u v).run P w = .ok () w := by
 unfold eqGuard
 cases hu <;> (split <;> rfl)
theorem bY.repL {ds : List D} {vs : List Value} (h : bY G w (ds.map .d) vs) : FT w G.S ds vs := by
 obtain ⟨hl, hg⟩ := h.get
 exact ⟨by simpa using hl, fun i d v hd hv => hg i (.d d) v (by simp [hd]) hv⟩
theorem Zo (h : Inv w0 G S a w) {bo : BinOp} {T T' : TypeId} {x y : Operand} (ho : o.op = .binOp bo T x y T') {E : Env} (hT : E.tt.ok P = true) {ws : List W} (hv : (eff E o).val S = some ws)
  (hK : ∀ a' w' G', Inv w0 G' (S.puts ws) a' w' -> K a' w') : o.wp P a w K Q := by
 unfold eff at hv
 rw [ho] at hv
 simp only [Rd.ak, zB] at hv
 obtain ⟨av, h1, av', h3, hv⟩ := hv
 have hx := aS h h1
 have hy := aS h h3
 split at hv
 ·rename_i cs cs'
  split at hv
  ·cases hv
  rename_i ks hks
  obtain ⟨hk, hg0, fs, hu⟩ := TT.adU hT hks
  split at hv
  case h_2 => cases hv
  rename_i ds ds' hds hds'
  obtain ⟨rfl, k1⟩ := Ee hds
  obtain ⟨rfl, k2⟩ := Ee hds'
  obtain ⟨vs, hxv, hcx⟩ := hx
  obtain ⟨us, hyv, hcy⟩ := hy
  have hr := SN (P := P) (w := w) 9 9991 T ks ds ds' vs us hk k1 k2 hcx.repL hcy.repL
  simp only [vk, hu] at hr
  have hg : ∀ op, (eqGuard op T x y (.agg vs.toArray) (.agg us.toArray)).run P w = .ok () w := fun op => run_eqGuard_agg w op T x y _ _ hg0
  split at hv
  ·simp only [Rd.val, zD] at hv
   subst hv
   refine aJ (v := .bool (yL ds ds')) (w' := w) ?_ (hK _ _ _ (h.dst (Rep.bool _)))
   unfold execOp
   simp only [ho, hxv, hyv, Sem.run_bind, hg, Result.andThen_ok, run_eql_struct, hr, Sem.run_pure]
  ·simp only [Rd.val, zD] at hv
   subst hv
   refine aJ (v := .bool (!(yL ds ds'))) (w' := w) ?_ (hK _ _ _ (h.dst (Rep.bool _)))
   unfold execOp
   simp only [ho, hxv, hyv, Sem.run_bind, hg, Result.andThen_ok, run_neq_struct, hr, Sem.run_pure]
  ·cases hv
 ·simp only [Rd.ak, zB] at hv
  obtain ⟨dx, h2, dy, h4, hv⟩ := hv
  have hx := jW h2 hx
  have hy := jW h4 hy
  have hg : (eqGuard bo T x y (a.eval x) (a.eval y)).run P w = .ok () w := SQ hx
  have fin : ∀ {z : D} {r : Value}, (binOp bo T (a.eval x) (a.eval y)).run P w = .ok r w -> Rep w G.S z r -> ws = dR o (.v (.one (.d z))) -> o.wp P a w K Q := by
   intro z r hr hrep hws
   subst hws
   refine aJ (v := r) (w' := w) ?_ (hK _ _ _ (h.dst (av := .v (.one (.d z))) hrep))
   unfold execOp
   simp only [ho, Sem.run_bind, hg, Result.andThen_ok, hr, Sem.run_pure]
  generalize hxv : a.eval x = xv at hx fin
  generalize hyv : a.eval y = yv at hy fin
  split at hv
  ·split at hv
   case isFalse => cases hv
   rename_i hkk
   subst hkk
   simp only [Rd.val, zB, zD] at hv
   obtain ⟨z, hz, rfl⟩ := hv
   cases hx; cases hy
   unfold quoI at hz
   split at hz
   ·cases hz
   ·rename_i hq
    cases hz
    exact fin (by simp [binOp, Op.intDiv, hq]) (Rep.int _ _) rfl
  ·split at hv
   case isFalse => cases hv
   rename_i hkk
   subst hkk
   simp only [Rd.val, zB, zD] at hv
   obtain ⟨z, hz, rfl⟩ := hv
   cases hx; cases hy
   unfold remI at hz
   split at hz
   ·cases hz
   ·rename_i hq
    cases hz
    exact fin (by simp [binOp, Op.intDiv, hq]) (Rep.int _ _) rfl
  ·simp only [Rd.val, zB, zD] at hv
   obtain ⟨z, hz, rfl⟩ := hv
   cases hx; cases hy
   unfold shlI at hz
   split at hz
   ·cases hz
   ·rename_i hq
    cases hz
    exact fin (by simp [binOp, Op.shift, hq]) (Rep.int _ _) rfl
  ·simp only [Rd.val, zB, zD] at hv
   obtain ⟨z, hz, rfl⟩ := hv
   cases hx; cases hy
   unfold shrI at hz
   split at hz
   ·cases hz
   ·rename_i hq
    cases hz
    exact fin (by simp [binOp, Op.shift, hq]) (Rep.int _ _) rfl
  ·simp only [Rd.val, zB, zD] at hv
   obtain ⟨_, hgd, rfl⟩ := hv
   rename_i p q _
   have hle : List.length p + List.length q <= 34359738368 := by
    unfold gd at hgd
    split at hgd
    ·rename_i hg'; exact hg'
    ·cases hgd
   obtain ⟨r, hr, hrep⟩ := TS (P := P) hx hy hle T
   exact fin hr hrep rfl
  ·split at hv
   ·rename_i hb
    simp only [Rd.val, zB, zD] at hv
    obtain ⟨z, hz, rfl⟩ := hv
    obtain ⟨r, hr, hrep⟩ := aav (P := P) hz hx hy T (fun p q e _ => TT.ab2 hT (hb (by rw [e]; rfl)))
    exact fin hr hrep rfl
   ·cases hv
theorem abg (h : Inv w0 G S a w) {uo : UnOp} {T : TypeId} {x : Operand} (ho : o.op = .unOp uo T x) {E : Env} {ws : List W} (hv : (eff E o).val S = some ws)
  (hK : ∀ a' w' G', Inv w0 G' (S.puts ws) a' w' -> K a' w') : o.wp P a w K Q := by
 unfold eff at hv
 rw [ho] at hv
 simp only [Rd.ak, zB] at hv
 obtain ⟨av, h1, dx, h2, hv⟩ := hv
 have hx := jW h2 (aS h h1)
 generalize hxv : a.eval x = xv at hx
 split at hv
 ·rename_i b
  split at hv
  ·simp only [Rd.val, zD] at hv
   subst hv
   cases hx
   refine aJ (v := .bool (!b)) (w' := w) ?_ (hK _ _ _ (h.dst (Rep.bool _)))
   unfold execOp
   simp [ho, hxv, Op.unary]
  ·cases hv
 ·rename_i k n
  split at hv
  ·simp only [Rd.val, zD] at hv
   subst hv
   cases hx
   refine aJ (v := .int k (k.wrap (0 - n))) (w' := w) ?_ (hK _ _ _ (h.dst (Rep.int _ _)))
   unfold execOp
   simp [ho, hxv, Op.unary, Op.intArith]
  ·cases hv
 ·cases hv
theorem Q8 (h : Inv w0 G S a w) {x : Operand} (ho : o.op = .nilCheck x) {E : Env} {ws : List W} (hv : (eff E o).val S = some ws)
  (hK : ∀ a' w' G', Inv w0 G' (S.puts ws) a' w' -> K a' w') : o.wp P a w K Q := by
 unfold eff at hv
 rw [ho] at hv
 simp only [Rd.ak, zB] at hv
 obtain ⟨av, h1, hv⟩ := hv
 have hx := aS h h1
 split at hv
 ·rename_i b off
  simp only [Rd.val, zD] at hv
  subst hv
  refine aJ (v := a.eval x) (w' := w) ?_ (hK _ _ _ (h.dst hx))
  have : a.eval x = .pointer (some ⟨G.bk b, off, none⟩) := hx.2
  unfold execOp
  simp [ho, this]
 ·cases hv
theorem iJ {c : Call} {b : Builtin} (ho : o.op = .call c) (hc : c.callee = .builtin b) {r : Value} {w' : World}
  (hr : (builtin b c.argTypes o.type (c.args.map fun | .const _ => true | _ => false) (c.args.map a.eval)).run P w = .ok (.value r) w') :
  (execOp a.eval o).run P w = .ok (.value r) w' := by
 unfold execOp
 simp only [ho, resolve, hc, Sem.run_bind, Sem.run_pure, Result.andThen_ok, invoke]
 exact hr
theorem lm {α : Type} {xs : Array α} {x : α} (h : xs.toList = [x]) : xs = #[x] := by
 cases xs; simp at h; rw [h]
theorem jZ {α : Type} {xs : Array α} {x y : α} (h : xs.toList = [x, y]) : xs = #[x, y] := by
 cases xs; simp at h; rw [h]
theorem adN (h : Inv w0 G S a w) {c : Call} (ho : o.op = .call c) (hcc : c.callee = .builtin .len) {E : Env} (hT : E.tt.ok P = true) {ws : List W} (hv : (eff E o).val S = some ws)
  (hK : ∀ a' w' G', Inv w0 G' (S.puts ws) a' w' -> K a' w') : o.wp P a w K Q := by
 unfold eff at hv
 rw [ho] at hv
 simp only [hcc] at hv
 split at hv
 ·rename_i x T hx hT'
  have hargs := lm hx
  have htys := lm hT'
  simp only [Rd.ak, zB] at hv
  obtain ⟨av, h1, hv⟩ := hv
  have hr := aS h h1
  have str : ∀ s : ByteArray, a.eval x = .string s -> E.tt.strs.contains T = true -> (execOp a.eval o).run P w = .ok (.value (.int .i64 s.size)) w := by
   intro s hs hc
   refine iJ ho hcc ?_
   simp [builtin, hargs, htys, hs, Builtin.len_, run_underlying (TT.GI hT hc), goInt]
  have sli : ∀ ad n cap, a.eval x = .slice ad n cap -> (lk E.tt.elem T).isSome = true -> (execOp a.eval o).run P w = .ok (.value (.int .i64 n)) w := by
   intro ad n cap hs hc
   obtain ⟨t, ht⟩ := Option.isSome_iff_exists.1 hc
   obtain ⟨e, _, _, hu, _⟩ := TT.gY hT ht
   refine iJ ho hcc ?_
   simp [builtin, hargs, htys, hs, Builtin.len_, run_underlying hu, goInt]
  have rep : ∀ (t : Ty) (xs : List t.den) v, Rep w G.S (.list t xs) v -> a.eval x = v -> (lk E.tt.elem T).isSome = true -> (execOp a.eval o).run P w = .ok (.value (.int .i64 xs.length)) w := by
   intro t xs v hrep hv hc
   cases hrep with
   | nil => exact sli _ _ _ hv hc
   | emp => exact sli _ _ _ hv hc
   | list _ _ b off cap vs hcap _ _ => exact sli _ _ _ hv hc
  split at hv
  ·rename_i s
   split at hv
   ·rename_i hs
    simp only [Rd.val, zD] at hv
    subst hv
    generalize hxv : a.eval x = xv at hr
    cases hr with
    | str v => exact aJ (str v hxv hs) (hK _ _ _ (h.dst (by rw [lQ]; exact Rep.int _ _)))
   ·cases hv
  ·rename_i t xs
   split at hv
   ·rename_i hs
    simp only [Rd.val, zD] at hv
    subst hv
    exact aJ (rep t xs _ hr rfl hs) (hK _ _ _ (h.dst (Rep.int _ _)))
   ·cases hv
  ·split at hv
   ·rename_i hs
    simp only [Rd.val, zD] at hv
    subst hv
    exact aJ (sli _ _ _ hr hs) (hK _ _ _ (h.dst (Rep.int _ _)))
   ·cases hv
  ·rename_i k j
   split at hv
   ·rename_i hs
    simp only [Rd.val] at hv
    split at hv
    ·rename_i t xs deep m hown
     simp only [Rd.val, zD] at hv
     subst hv
     have hO := h.owns k j
     rw [hown] at hO
     refine aJ ?_ (hK _ _ _ (h.dst (Rep.int _ _)))
     rcases hO with ⟨e1, e2⟩ | ⟨b, cap, arr, e', vs, fps, e1, _⟩
     ·subst e2; exact sli _ _ _ (hr.2.1.trans e1) hs
     ·exact sli _ _ _ (hr.2.1.trans e1) hs
    ·rename_i t xs hown
     simp only [Rd.val, zD] at hv
     subst hv
     exact aJ (rep t xs _ (h.OO hown) hr.2.1 hs) (hK _ _ _ (h.dst (Rep.int _ _)))
    ·rename_i t xs hown
     simp only [Rd.val, zD] at hv
     subst hv
     have hO := h.Zc (k := k) (j := j) (t := t) (xs := xs) (deep := true) (m := true) (by rw [hown]; rfl)
     refine aJ (v := .int .i64 xs.length) (w' := w) ?_ (hK _ _ _ (h.dst (Rep.int _ _)))
     rcases hO with ⟨hx, rfl⟩ | ⟨b, cap, _, _, _, _, hx, _⟩
     ·exact sli none 0 0 (by rw [hr.2.1]; exact hx) hs
     ·exact sli _ _ cap (by rw [hr.2.1]; exact hx) hs
    ·cases hv
   ·cases hv
  ·cases hv
 ·cases hv
end ops
end Go.Abs
namespace Go.Abs
open Go.RowKit
theorem qG {α : Type} (cs : List α) (off : Nat) (vs : List α) (h : off + vs.length <= cs.length) : (bT cs off vs).length = cs.length := by
 simp [bT]; omega
theorem Qr {α : Type} (cs : List α) (off : Nat) (v : α) (vs : List α) (h : off + (vs.length + 1) <= cs.length) : bT (cs.set off v) (off + 1) vs = bT cs off (v :: vs) := by
 apply List.ext_getElem?
 intro i
 simp only [bT, List.getElem?_append, List.getElem?_take, List.getElem?_drop, List.getElem?_set, List.length_append, List.length_take, List.length_set, List.length_cons, List.getElem?_cons]
 have e1 : min (off + 1) cs.length = off + 1 := by omega
 have e2 : min off cs.length = off := by omega
 rw [e1, e2]
 by_cases h1 : i < off
 ·have a1 : i < off + 1 := by omega
  have a2 : i < off + 1 + vs.length := by omega
  have a3 : i < off + (vs.length + 1) := by omega
  have a4 : off ≠ i := by omega
  simp [h1, a1, a2, a3, a4]
 ·by_cases h2 : i = off
  ·subst h2
   have a2 : i < i + 1 + vs.length := by omega
   have a5 : i < cs.length := by omega
   simp [a2, a5]
  ·have a1 : ¬ i < off + 1 := by omega
   by_cases h3 : i < off + 1 + vs.length
   ·have a3 : i < off + (vs.length + 1) := by omega
    have a6 : i - off ≠ 0 := by omega
    have a7 : i - off - 1 = i - (off + 1) := by omega
    simp [h1, a1, h3, a3, a6, a7]
   ·have a3 : ¬ i < off + (vs.length + 1) := by omega
    have a8 : off ≠ off + 1 + vs.length + (i - (off + 1 + vs.length)) := by omega
    simp only [h3, a3, a8, if_false]
    congr 1
    omega
theorem SB : ∀ (vs : List Value) (k off : Nat) (cs : Array Value), off + k + vs.length <= cs.size ->
  (vs.zipIdx k).foldl (fun (cs : Array Value) (p : Value × Nat) => cs.setIfInBounds (off + p.2) p.1) cs = (bT cs.toList (off + k) vs).toArray
 | [], k, off, cs, _ => by simp [bT]
 | v :: vs, k, off, cs, h => by
  simp only [List.zipIdx_cons, List.foldl_cons]
  rw [SB vs (k + 1) off _ (by simp at h ⊢; omega)]
  simp only [Array.toList_setIfInBounds]
  congr 1
  exact Qr cs.toList (off + k) v vs (by simp at h ⊢; omega)
section ops
variable {P : Program} {w0 : Bs} {G : Gh} {S : St} {a : Act} {w : World} {o : Oper} {K : Act -> World -> Prop} {Q : Exit -> Act -> World -> Prop}
theorem MR (h : Inv w0 G S a w) {c : Call} (ho : o.op = .call c) (hcc : c.callee = .builtin .max \/ c.callee = .builtin .min) {E : Env} {ws : List W} (hv : (eff E o).val S = some ws)
  (hK : ∀ a' w' G', Inv w0 G' (S.puts ws) a' w' -> K a' w') : o.wp P a w K Q := by
 unfold eff at hv
 rw [ho] at hv
 rcases hcc with hcc | hcc
 all_goals
  simp only [hcc] at hv
  split at hv
  ·rename_i x y hxy
   have hargs := jZ hxy
   simp only [Rd.ak, zB] at hv
   obtain ⟨av, h1, d, h2, hv⟩ := hv
   have hx := jW h2 (aS h h1)
   generalize hxv : a.eval x = xv at hx
   split at hv
   ·rename_i m
    simp only [Rd.ak, zB] at hv
    obtain ⟨av', h3, d', h4, hv⟩ := hv
    have hy := jW h4 (aS h h3)
    generalize hyv : a.eval y = yv at hy
    split at hv
    ·rename_i n
     simp only [Rd.val, zD] at hv
     subst hv
     cases hx
     cases hy
     refine aJ ?_ (hK _ _ _ (h.dst (Rep.int _ _)))
     refine iJ ho hcc ?_
     first
      | (have := run_max_int2 (P := P) w c.argTypes o.type .i64 .i64 m n
         simp [builtin, hargs, hxv, hyv, this]; done)
      | (have := run_min_int2 (P := P) w c.argTypes o.type .i64 .i64 m n
         simp [builtin, hargs, hxv, hyv, this]; done)
    ·cases hv
   ·cases hv
  ·cases hv
theorem JZ : ∀ (ns : List Int) (s : ByteArray), (ns.foldl (fun r n => r.push (UInt8.ofNat n.toNat)) s).data.toList = s.data.toList ++ ns.map fun n => UInt8.ofNat n.toNat
 | [], s => by simp
 | n :: ns, s => by
  rw [List.foldl_cons, JZ ns]
  simp [ByteArray.push]
theorem Xw {S0 : Nat -> Nat -> Prop} {xs : List Int} {v : Value} (h : Rep w S0 (.list (.base .u8) xs) v) : ∃ b : ByteArray, (Conv.bytesToString v).run P w = .ok (.string b) w /\ b.data.toList = bytesOf xs := by
 have some_ : ∀ (ad : Addr) (cap : Nat), (loadCells ad xs.length).run P w = .ok (xs.map (Value.int .u8)).toArray w -> ∃ b : ByteArray, (Conv.bytesToString (.slice (some ad) xs.length cap)).run P w = .ok (.string b) w /\ b.data.toList = bytesOf xs := by
  intro ad cap hl
  exact ⟨_, run_bytesToString w ad xs.length cap xs hl, by rw [JZ]; rfl⟩
 generalize hdd : D.list (.base .u8) xs = dd at h
 cases h <;> cases hdd
 ·exact ⟨ByteArray.empty, by simp [Conv.bytesToString], rfl⟩
 ·rename_i ad cap
  exact some_ ad cap (run_loadCells_list (P := P) w ad [] (by simp))
 ·rename_i b off cap vs hcap hc hr
  refine some_ _ cap ?_
  have hlen : (xs.map (Value.int .u8)).length = xs.length := by simp
  rw [<- hlen]
  refine run_loadCells_list (P := P) w _ _ fun j v hj => ?_
  simp only [List.getElem?_map, Option.map_eq_some_iff] at hj
  obtain ⟨x, hx, rfl⟩ := hj
  have h1 := hc j x 0 (.int .u8 x) hx rfl
  have h2 := hr j x 0 (.int .u8 x) hx rfl
  have e : vs j 0 = .int .u8 x := by
   generalize vs j 0 = v at h2
   cases h2
   rfl
  rw [addr_add]
  have h3 := h1.1
  rw [e] at h3
  simpa [Ty.size, Base.size] using h3
theorem UH (h : Inv w0 G S a w) {T0 T : TypeId} {x : Operand} (ho : o.op = .convert T0 T x) {E : Env} (hT : E.tt.ok P = true) {ws : List W} (hv : (eff E o).val S = some ws)
  (hK : ∀ a' w' G', Inv w0 G' (S.puts ws) a' w' -> K a' w') : o.wp P a w K Q := by
 unfold eff at hv
 rw [ho] at hv
 simp only [Rd.ak, zB] at hv
 obtain ⟨av, h1, hv⟩ := hv
 have hr := aS h h1
 split at hv
 ·rename_i k0 k hk0 hk
  have hu := TT.Jk hT hk
  have hu0 := TT.Jk hT hk0
  simp only [Rd.ak, zB, Rd.val, zD] at hv
  obtain ⟨n, h2, rfl⟩ := hv
  obtain ⟨kk, hn⟩ := oO h2 hr
  refine aJ (v := .int k (k.wrap n)) (w' := w) ?_ (hK _ _ _ (h.dst (Rep.int _ _)))
  have hc : (convert T0 T (.int kk n)).run P w = .ok (.int k (k.wrap n)) w := by
   simp [convert, run_underlying hu0, run_underlying hu, Conv.intToInt]
  unfold execOp
  simp [ho, hn, hc]
 ·split at hv
  case isFalse => cases hv
  rename_i hg
  have hu := TT.GI hT hg.1
  obtain ⟨e, inf, z, hus, hi, hsz, _, hz, hzs, hzm⟩ := TT.gY hT hg.2
  split at hv
  case h_2 => cases hv
  rename_i c
  simp only [listOf, Rd.ak, zB, Rd.val, zD] at hv
  obtain ⟨xs, ⟨d, h2, xs', h3, h4⟩, rfl⟩ := hv
  subst h4
  have hd := D.dB h3
  subst hd
  have hrep := JY h h2 hr (aI [c]) (fun k j e => by subst e; simp [aI])
  obtain ⟨b, hb, hbl⟩ := Xw (P := P) hrep
  refine aJ (v := .string b) (w' := w) ?_ (hK _ _ _ (h.dst (by rw [<- hbl]; exact Rep.str _)))
  have hsl : ∃ ad l cc, a.eval x = .slice ad l cc := by
   generalize a.eval x = v at hrep
   cases hrep <;> exact ⟨_, _, _, rfl⟩
  obtain ⟨ad, l, cc, hx⟩ := hsl
  rw [hx] at hb
  have hue : P.underlying e = some (.int .u8) := TT.aeb hT hg.2 hus
  have hc : (convert T0 T (.slice ad l cc)).run P w = .ok (.string b) w := by
   rw [run_convert_bytes_string w T0 T e ad l cc hus hue hu]
   exact hb
  unfold execOp
  simp [ho, hx, hc]
theorem Zi (h : Inv w0 G S a w) {T : TypeId} {x : Operand} {f : Nat} (ho : o.op = .field T x f) {E : Env} (hT : E.tt.ok P = true) {ws : List W} (hv : (eff E o).val S = some ws)
  (hK : ∀ a' w' G', Inv w0 G' (S.puts ws) a' w' -> K a' w') : o.wp P a w K Q := by
 unfold eff at hv
 rw [ho] at hv
 simp only at hv
 split at hv
 ·cases hv
 rename_i fo agg n hf
 obtain ⟨F, fd, d, i, hu, hF, hoff, hdu, hi, hd, hsz, hpos⟩ := TT.JM hT hf
 simp only [Rd.ak, zB] at hv
 obtain ⟨av, h1, hv⟩ := hv
 have hr := aS h h1
 split at hv
 ·rename_i cs
  simp only [Rd.val, zB] at hv
  obtain ⟨y, hy, hv⟩ := hv
  split at hv
  ·rename_i hn
   simp only [Rd.val, zD] at hv
   subst hv
   obtain ⟨vs, hxv, hc⟩ := hr
   obtain ⟨m1, m2⟩ := O6 hy (hc.seg fo n)
   have hagg : (isAgg fd.type).run P w = .ok agg w := by
    unfold isAgg
    rw [Sem.run_bind, run_underlying hdu w, <- hd]
    cases d <;> rfl
   cases agg with
   | true =>
    refine aJ (v := .agg (seg vs fo n).toArray) (w' := w) ?_ (hK _ _ _ (h.dst (oN (m1 rfl))))
    unfold execOp
    simp [ho, hxv, Instr.field, run_underlying hu, hF, asAgg, part, hagg, sizeOf, typeInfo, hi, hoff, hsz, Abs.seg]
   | false =>
    obtain ⟨v, hv1, hv2⟩ := m2 rfl
    refine aJ (v := v) (w' := w) ?_ (hK _ _ _ (h.dst (oN hv2)))
    have : vs[fo]? = some v := by
     have e : (seg vs fo n)[0]? = some v := by rw [hv1]; rfl
     simp only [Abs.seg, List.getElem?_take, List.getElem?_drop] at e
     rw [if_pos hpos] at e
     exact e
    unfold execOp
    simp [ho, hxv, Instr.field, run_underlying hu, hF, asAgg, part, hagg, hoff, this]
  ·cases hv
 ·cases hv
theorem SG {place : Nat -> Option (Nat × Nat)} {i : Nat} {off n : Nat} {v : Value} {vs : List Value} {cells : Array Value} {rest : List (Nat × Value)} (hp : place i = some (off, n)) (hv : v.cells = vs.toArray)
  (hn : vs.length = n) (hl : off + n <= cells.size) : Instr.fill place cells ((i, v) :: rest) = Instr.fill place (bT cells.toList off vs).toArray rest := by
 have e := SB vs 0 off cells (by omega)
 simp only [Instr.fill, hp, hv]
 have h1 : ¬ (vs.toArray.size ≠ n \/ off + vs.toArray.size > cells.size) := by simp [hn]; omega
 simp only [Bool.or_eq_true, decide_eq_true_eq, List.size_toArray] at *
 rw [if_neg (by simp [hn]; omega)]
 congr 1
 rw [<- Array.foldl_toList]
 simpa using e
theorem Nl (h : Inv w0 G S a w) {fs : List (Nat × Bool × Nat)} : ∀ {parts : List (Nat × Operand)} {z cs : List C} {vs : List Value}, (eff.fillA fs parts z).val S = some cs -> bY G w z vs ->
  ∃ us : List Value, bY G w cs us /\ Instr.fill ((fs.map fun x => (x.1, x.2.2)).toArray[·]?) vs.toArray (parts.map fun p => (p.1, a.eval p.2)) = some us.toArray
 | [], z, cs, vs, hv, hz => by
  simp only [eff.fillA, Rd.val, zD] at hv
  subst hv
  exact ⟨vs, hz, rfl⟩
 | (i, x) :: r, z, cs, vs, hv, hz => by
  simp only [eff.fillA] at hv
  split at hv
  ·cases hv
  rename_i fo agg n hf
  simp only [Rd.ak, zB] at hv
  obtain ⟨av, h1, x', h2, hv⟩ := hv
  split at hv
  ·rename_i hn
   have hr := lZ h2 (aS h h1)
   obtain ⟨us, hus, hcs⟩ := hr.NT
   have hl := hcs.length
   have hzl := hz.length
   obtain ⟨us', h3, h4⟩ := Nl h hv (hz.bT hcs fo)
   refine ⟨us', h3, ?_⟩
   rw [<- h4]
   simp only [List.map_cons]
   rw [SG (n := n) (off := fo) (by simp [hf]) hus (by omega) (by simp; omega)]
  ·cases hv
theorem Zm (h : Inv w0 G S a w) {T : TypeId} {parts : Array (Nat × Operand)} (ho : o.op = .build T parts) {E : Env} (hT : E.tt.ok P = true) {ws : List W} (hv : (eff E o).val S = some ws)
  (hK : ∀ a' w' G', Inv w0 G' (S.puts ws) a' w' -> K a' w') : o.wp P a w K Q := by
 unfold eff at hv
 rw [ho] at hv
 simp only at hv
 split at hv
 ·rename_i z fs hz hf
  obtain ⟨i, zv, hi, hzv, hm⟩ := TT.Vu hT hz
  obtain ⟨F, hu, hpl⟩ := TT.Ya hT hf
  simp only [Rd.ak, zB, Rd.val, zD] at hv
  obtain ⟨cs, h1, rfl⟩ := hv
  obtain ⟨us, hus, hfill⟩ := Nl h h1 (jY (G := G) (w := w) _ _ hm)
  refine aJ (v := .agg us.toArray) (w' := w) ?_ (hK _ _ _ (h.dst (av := .v (.agg cs)) ⟨us, rfl, hus⟩))
  have hb : P.built T (parts.map fun (i, x) => (i, a.eval x)).toList = some us.toArray := by
   unfold Program.built
   simp only [hi, hu, hzv, hpl]
   simpa using hfill
  have := run_build (P := P) w T _ _ hb
  unfold execOp
  simp [ho, this]
 ·cases hv
end ops
end Go.Abs
namespace Go.Abs
open Go.RowKit
theorem eG {d : Nat} {os : List O} {S : St} {ws : List W} (h : (fresh d os).val S = some ws) : S.aC d = [] /\ ws = [.o d os] := by
 simp only [fresh, Rd.val] at h
 split at h
 ·rename_i he; simp only [Rd.val, zD] at h; exact ⟨he, h.symm⟩
 ·cases h
theorem dM (S : St) (a b : List W) : S.puts (a ++ b) = (S.puts a).puts b := by
 induction a generalizing S with
 | nil => rfl
 | cons x r ih => exact ih _
theorem jr {q : Nat × Nat} {r : List (Nat × Nat)} (h : nodupB (q :: r) = true) : q ∉ r /\ nodupB r = true := by
 simp only [nodupB, zI, Bool.not_eq_true', List.any_eq_false, zI, beq_iff_eq, not_and] at h
 refine ⟨fun hq => ?_, h.2⟩
 exact h.1 q hq rfl rfl
section ops
variable {P : Program} {w0 : Bs} {G : Gh} {S : St} {a : Act} {w : World}
structure More (G G' : Gh) (A : Nat -> Nat -> Prop) : Prop where
 ow : G'.ow = G.ow
 ov : G'.ov = G.ov
 bk : G'.bk = G.bk
 lk : G'.lk = G.lk
 lb : G'.lb = G.lb
 s : ∀ b o, G'.S b o ↔ (G.S b o \/ A b o)
theorem More.mv {G' : Gh} {A : Nat -> Nat -> Prop} (h : More G G' A) (w : World) : Mv G G' w w :=
 ⟨fun b o hs => ⟨(h.s b o).2 (.inl hs), rfl⟩, fun k hk => ⟨by rw [h.lk]; exact hk, fun j => by rw [h.ov]⟩, fun i hi => ⟨by rw [h.lb]; exact hi, by rw [h.bk]⟩⟩
theorem Inv.yG (h : Inv w0 G S a w) (k j : Nat) : ∃ G', Inv w0 G' (S.put (.ro k j)) a w /\ More G G' (AK G S [(k, j)]) := by
 let G' : Gh := { G with S := fun b o => G.S b o \/ AK G S [(k, j)] b o }
 have hmore : More G G' (AK G S [(k, j)]) := ⟨rfl, rfl, rfl, rfl, rfl, fun b o => Iff.rfl⟩
 have hm := hmore.mv w
 have ho : ∀ b o, AK G S [(k, j)] b o -> G.ow b = some (.own k j) := by
  rintro b o ⟨k', j', t, xs, deep, m, hmem, _, how, _⟩
  simp only [List.mem_singleton, Prod.mk.injEq] at hmem
  rw [hmem.1, hmem.2] at how
  exact how
 refine ⟨G', ⟨h.below, h.nodef, h.tsz, by simp [St.put, St.bM, h.bsz], by simp [St.put, St.bM, h.osz], fun i v hv => (h.tmps i v hv).move hm, h.olt, ?_, ?_, ?_, ?_, h.lb, fun b o hs hl => hs.elim (fun hs => h.sfr b o hs hl) fun hs => absurd (h.kz (ho b o hs)).1 (by omega), h.fx⟩, hmore⟩
 ·intro b o hs
  rcases hs with hs | hs
  ·exact h.sok b o hs
  ·have := ho b o hs
   exact ⟨(h.olt _ _ this).2, fun i e => by rw [this] at e; cases e⟩
 ·intro i cs hcs
  obtain ⟨how, vs, E, hh, hc⟩ := h.box i cs hcs
  exact ⟨how, vs, E, hh, hc.move hm⟩
 ·intro k' j'
  show qB G' w k' j' (aU ((S.bM k ((S.aC k).set j (aU (S.aC k) j).yG)).aC k') j')
  rw [aY]
  have keep : (k', j') ≠ (k, j) -> qB G' w k' j' (aU (S.aC k') j') := fun hne =>
   (h.owns k' j').same (G' := G') rfl hm.s (fun t xs deep m hx => ⟨fun b hb => ⟨hb, rfl⟩, fun b len cap hv hb o hs => by
    rcases hs with hs | hs
    ·exact .inl hs
    ·have e1 := ho b o hs
     have e2 : G.ow b = some (.own k' j') := hb
     rw [e1] at e2
     cases e2
     exact absurd rfl hne⟩) fun t xs hx b hb => ⟨hb, rfl, fun o hs => by
    rcases hs with hs | hs
    ·exact hs
    ·have e1 := ho b o hs
     have e2 : G.ow b = some (.own k' j') := hb
     rw [e1] at e2
     cases e2
     exact absurd rfl hne⟩
  have turn : qB G' w k j (aU (S.aC k) j).yG := by
   have hO := h.owns k j
   cases hx : aU (S.aC k) j with
   | dead => trivial
   | ro t xs => rw [hx] at hO; exact Rep.move hO hm.s
   | own t xs deep m => exact h.BA hx [(k, j)] (by simp)
   | tree t xs => exact h.Iz (by rw [hx]; rfl) [(k, j)] (by simp)
   | part t xs i =>
    rw [hx] at hO
    refine gu.move hO (fun b hb => ⟨hb, rfl⟩) fun b o hb hs => ?_
    rcases hs with hs | ⟨k2, j2, t2, xs2, d2, m2, hmem, ho2, _⟩
    ·exact hs
    ·simp only [List.mem_singleton, Prod.mk.injEq] at hmem
     rw [hmem.1, hmem.2, hx] at ho2
     cases ho2
   | seg t xs => rw [hx] at hO; exact vK.move hO hm.s fun b hb => ⟨hb, rfl⟩
  by_cases hk : k = k' /\ k < S.owns.length
  ·rw [if_pos hk, fJ]
   obtain ⟨rfl, hkl⟩ := hk
   by_cases hj : j = j' /\ j < (S.aC k).length
   ·rw [if_pos hj]; obtain ⟨rfl, _⟩ := hj; exact turn
   ·rw [if_neg hj]
    by_cases hjj : j = j'
    ·subst hjj
     have : aU (S.aC k) j = .dead := by
      simp only [aU, zE]
      rw [zJ (by omega)]; rfl
     rw [this]; trivial
    ·exact keep (by simp [Ne.symm hjj])
  ·rw [if_neg hk]
   by_cases hkk : (k', j') = (k, j)
   ·cases hkk
    have hg : S.aC k = [] := by
     have : ¬ k < S.owns.length := fun hl => hk ⟨rfl, hl⟩
     simp only [St.aC, zE]
     rw [zJ (by omega)]; rfl
    rw [hg]; trivial
   ·exact keep hkk
 ·intro k' hk'
  show (S.bM k ((S.aC k).set j (aU (S.aC k) j).yG)).aC k' ≠ []
  rw [aY]
  split
  ·rename_i hk
   intro e
   have : (S.aC k).length = 0 := by simpa using congrArg List.length e
   exact h.lk k' hk' (by rw [<- hk.1]; exact List.eq_nil_of_length_eq_zero this)
  ·exact h.lk k' hk'
theorem EK (S : St) (k j k' j' : Nat) : aU ((S.put (.ro k j)).aC k') j' = if (k, j) = (k', j') then (aU (S.aC k') j').yG else aU (S.aC k') j' := by
 show aU ((S.bM k ((S.aC k).set j (aU (S.aC k) j).yG)).aC k') j' = _
 rw [aY]
 by_cases hk : k = k' /\ k < S.owns.length
 ·rw [if_pos hk, fJ]
  obtain ⟨rfl, _⟩ := hk
  by_cases hj : j = j'
  ·subst hj
   simp only [true_and, if_true]
   split
   ·rfl
   ·have : aU (S.aC k) j = .dead := by
     simp only [aU, zE]
     rw [zJ (by omega)]; rfl
    rw [this]; rfl
  ·have : ¬ ((k, j) = (k, j')) := by simp [hj]
   rw [if_neg (fun e => hj e.1), if_neg this]
 ·rw [if_neg hk]
  split
  ·rename_i e
   cases e
   have hg : S.aC k = [] := by
    have : ¬ k < S.owns.length := fun hl => hk ⟨rfl, hl⟩
    simp only [St.aC, zE]
    rw [zJ (by omega)]; rfl
   rw [hg]; rfl
  ·rfl
theorem FN {S : St} {k j d : Nat} (h : S.aC d = []) : (S.put (.ro k j)).aC d = [] := by
 show (S.bM k ((S.aC k).set j (aU (S.aC k) j).yG)).aC d = []
 rw [aY]
 split
 ·rename_i hk; rw [hk.1, h]; rfl
 ·exact h
theorem Inv.Qk : ∀ (keys : List (Nat × Nat)) {G : Gh} {S : St}, Inv w0 G S a w -> nodupB keys = true ->
  ∃ G', Inv w0 G' (S.puts (keys.map fun q => .ro q.1 q.2)) a w /\ More G G' (AK G S keys) /\
   (∀ k j, aU ((S.puts (keys.map fun q => .ro q.1 q.2)).aC k) j = if (k, j) ∈ keys then (aU (S.aC k) j).yG else aU (S.aC k) j) /\
   (∀ d, S.aC d = [] -> (S.puts (keys.map fun q => .ro q.1 q.2)).aC d = [])
 | [], G, S, h, _ => ⟨G, h, ⟨rfl, rfl, rfl, rfl, rfl, fun b o => ⟨.inl, fun hh => hh.elim id fun ⟨_, _, _, _, _, _, hm, _⟩ => by cases hm⟩⟩, fun k j => by simp [St.puts], fun d hd => hd⟩
 | (k, j) :: r, G, S, h, hn => by
  obtain ⟨hq, hn'⟩ := jr hn
  obtain ⟨G1, h1, m1⟩ := h.yG k j
  obtain ⟨G2, h2, m2, e2, n2⟩ := Inv.Qk r h1 hn'
  have hput : ∀ k' j', (k', j') ∈ r -> aU ((S.put (.ro k j)).aC k') j' = aU (S.aC k') j' := fun k' j' hm => by
   rw [EK, if_neg fun e : (k, j) = (k', j') => hq (e ▸ hm)]
  refine ⟨G2, h2, ⟨m2.ow.trans m1.ow, m2.ov.trans m1.ov, m2.bk.trans m1.bk, m2.lk.trans m1.lk, m2.lb.trans m1.lb, fun b o => ?_⟩, fun k' j' => ?_, fun d hd => n2 d (FN hd)⟩
  ·rw [m2.s, m1.s]
   constructor
   ·rintro ((hs | ⟨k', j', t, xs, deep, m, hm, hx⟩) | ⟨k', j', t, xs, deep, m, hm, hx, how, hov⟩)
    ·exact .inl hs
    ·simp only [List.mem_singleton] at hm
     exact .inr ⟨k', j', t, xs, deep, m, by rw [hm]; exact List.mem_cons_self, hx⟩
    ·rw [hput k' j' hm] at hx
     exact .inr ⟨k', j', t, xs, deep, m, List.mem_cons_of_mem _ hm, hx, by rw [<- m1.ow]; exact how, by rw [<- m1.ov]; exact hov⟩
   ·rintro (hs | ⟨k', j', t, xs, deep, m, hm, hx, how, hov⟩)
    ·exact .inl (.inl hs)
    ·rcases List.mem_cons.1 hm with hm | hm
     ·exact .inl (.inr ⟨k', j', t, xs, deep, m, by simp [hm], hx, how, hov⟩)
     ·exact .inr ⟨k', j', t, xs, deep, m, hm, by rw [hput k' j' hm]; exact hx, by rw [m1.ow]; exact how, by rw [m1.ov]; exact hov⟩
  ·show aU (((S.put (.ro k j)).puts (r.map fun q => .ro q.1 q.2)).aC k') j' = _
   rw [e2, EK]
   by_cases hm : (k', j') ∈ r
   ·have : ¬ ((k, j) = (k', j')) := fun e => hq (e ▸ hm)
    rw [if_pos hm, if_neg this, if_pos (List.mem_cons_of_mem _ hm)]
   ·rw [if_neg hm]
    by_cases he : (k, j) = (k', j')
    ·rw [if_pos he, if_pos (by rw [he]; exact List.mem_cons_self)]
    ·rw [if_neg he, if_neg fun e => (List.mem_cons.1 e).elim (fun e => he e.symm) hm]
def rowsOf (G : Gh) (S : St) (c : C) (b : Nat) : Prop := ∃ k j, c = .own k j /\ G.ow b = some (.own k j) /\ ∃ t xs deep m, (aU (S.aC k) j).pO = .own t xs deep m
theorem uQ : ∀ {cs : List C} {dp : Bool}, (qM cs).val S = some dp -> ∀ (i : Nat) (c : C), cs[i]? = some c -> ∃ b, (y9 c).val S = some b /\ (dp = true -> b = true)
 | [], dp, _, i, c, hc => by simp at hc
 | c0 :: cs, dp, hv, i, c, hc => by
  simp only [qM, Rd.ak, zB, Rd.val, zD] at hv
  obtain ⟨b, h1, b', h2, rfl⟩ := hv
  cases i with
  | zero => simp at hc; subst hc; exact ⟨b, h1, fun e => (zI _ _ ▸ e).1⟩
  | succ i =>
   obtain ⟨b'', h3, h4⟩ := uQ h2 i c (by simpa using hc)
   exact ⟨b'', h3, fun e => h4 (zI _ _ ▸ e).2⟩
theorem P6 (h : Inv w0 G S a w) {ty : Option Ty} {c : C} {d : D} {v : Value} {b dp : Bool} (hd : (cD ty c).val S = some d) (hc : kY G w c v) (hb : (y9 c).val S = some b) (hdp : dp = true -> b = true)
  {S' : Nat -> Nat -> Prop} {keys : List (Nat × Nat)} (hS : ∀ x o, (G.S x o \/ AK G S keys x o) -> S' x o) (hk : ∀ k j, c = .own k j -> (k, j) ∈ keys) : Ow w S' dp d v (rowsOf G S c) := by
 cases dp with
 | false => exact .ro d v _ rfl ((JY h hd hc keys hk).move fun x o hs => ⟨hS x o hs, rfl⟩)
 | true =>
  have hbt := hdp rfl
  subst hbt
  cases c with
  | undef => cases hd
  | d x =>
   simp only [cD, Rd.val, zD] at hd
   subst hd
   cases x with
   | list t xs => simp [y9, Rd.val] at hb
   | int k n => cases hc; exact .int k n _
   | bool p => cases hc; exact .bool p _
   | str s => cases hc; exact .str _ _
  | nil =>
   simp only [cD] at hd
   split at hd
   ·simp only [Rd.val, zD] at hd
    subst hd
    rw [show v = _ from hc]
    exact .nil _ _
   ·cases hd
  | own k j =>
   simp only [cD, Rd.val] at hd
   simp only [y9, Rd.val] at hb
   rw [hc.2.1]
   have hO := h.owns k j
   split at hd
   ·rename_i t xs deep m ho
    rw [ho] at hb hO
    simp only [Rd.val, zD] at hd hb
    subst hd; subst hb
    have := OwT.ow hO
    refine (this.move (fun x o hs => ⟨hS x o (.inl hs), rfl⟩) fun _ _ => rfl).sub (fun x hx => ⟨k, j, rfl, hx, t, xs, true, m, by rw [ho]; rfl⟩) fun e => e
   ·rename_i t xs ho
    rw [ho] at hb
    simp [Rd.val] at hb
   ·rename_i t xs ho
    simp only [Rd.val, zD] at hd
    subst hd
    have := OwT.ow (h.Zc (k := k) (j := j) (t := t) (xs := xs) (deep := true) (m := true) (by rw [ho]; rfl))
    refine (this.move (fun x o hs => ⟨hS x o (.inl hs), rfl⟩) fun _ _ => rfl).sub (fun x hx => ⟨k, j, rfl, hx, t, xs, true, true, by rw [ho]; rfl⟩) fun e => e
   ·cases hd
   ·cases hd
   ·cases hd
  | ptr b off => cases hd
end ops
end Go.Abs
namespace Go.Abs
open Go.RowKit
theorem flat_get {α β : Type} (f : α -> List β) (n : Nat) : ∀ (xs : List α), (∀ x ∈ xs, (f x).length = n) -> ∀ (i j : Nat) (x : α), xs[i]? = some x -> j < n -> (xs.flatMap f)[i * n + j]? = (f x)[j]?
 | [], _, i, j, x, h, _ => by simp at h
 | x0 :: xs, hl, i, j, x, h, hj => by
  have h0 := hl x0 List.mem_cons_self
  cases i with
  | zero =>
   simp at h; subst h
   simp only [List.flatMap_cons, Nat.zero_mul, Nat.zero_add]
   rw [List.getElem?_append_left (by omega)]
  | succ i =>
   have ih := flat_get f n xs (fun y hy => hl y (List.mem_cons_of_mem _ hy)) i j x (by simpa using h) hj
   rw [<- ih]
   simp only [List.flatMap_cons]
   rw [List.getElem?_append_right (by rw [h0, Nat.succ_mul]; omega)]
   congr 1
   rw [h0, Nat.succ_mul]; omega
theorem flat_length {α β : Type} (f : α -> List β) (n : Nat) : ∀ (xs : List α), (∀ x ∈ xs, (f x).length = n) -> (xs.flatMap f).length = xs.length * n
 | [], _ => by simp
 | x0 :: xs, hl => by
  rw [List.flatMap_cons, List.length_append, hl x0 List.mem_cons_self, flat_length f n xs fun y hy => hl y (List.mem_cons_of_mem _ hy), List.length_cons, Nat.succ_mul]
  omega
theorem eX : ∀ {cs : List C}, nodupB (aI cs) = true -> ∀ {p q k j : Nat}, cs[p]? = some (.own k j) -> cs[q]? = some (.own k j) -> p = q
 | [], _, p, q, k, j, hp, _ => by simp at hp
 | c :: cs, hn, p, q, k, j, hp, hq => by
  have hn' : nodupB (aI cs) = true /\ ∀ k j, c = .own k j -> (k, j) ∉ aI cs := by
   cases c <;> simp only [aI] at hn <;> first
    | exact ⟨hn, fun _ _ e => by cases e⟩
    | (obtain ⟨h1, h2⟩ := jr hn; exact ⟨h2, fun _ _ e => by cases e; exact h1⟩)
  cases p with
  | zero =>
   simp at hp
   cases q with
   | zero => rfl
   | succ q => simp at hq; exact absurd (fO (zG hq)) (hn'.2 k j hp)
  | succ p =>
   simp at hp
   cases q with
   | zero => simp at hq; exact absurd (fO (zG hp)) (hn'.2 k j hq)
   | succ q => simp at hq; rw [eX hn'.1 hp hq]
theorem L9 {i j i' j' n : Nat} (hj : j < n) (hj' : j' < n) (h : i * n + j = i' * n + j') : i = i' /\ j = j' := by
 have h1 : i = i' := by
  have e1 : (i * n + j) / n = i := by rw [Nat.mul_comm, Nat.mul_add_div (by omega), Nat.div_eq_of_lt hj]; omega
  have e2 : (i' * n + j') / n = i' := by rw [Nat.mul_comm, Nat.mul_add_div (by omega), Nat.div_eq_of_lt hj']; omega
  rw [<- e1, <- e2, h]
 subst h1
 omega
section ops
variable {P : Program} {w0 : Bs} {G : Gh} {S : St} {a : Act} {w : World} {o : Oper} {K : Act -> World -> Prop} {Q : Exit -> Act -> World -> Prop}
theorem Inv.O5 (h : Inv w0 G S a w) (d : Nat) {t : Ty} {xs : List t.den} {deep m : Bool} {v : Value} (lab : Nat -> Prop) (hd : S.aC d = [])
  (hlab : ∀ c, lab c -> w0.w.heap.size <= c /\ c < w.heap.size /\ (∀ i, G.ow c ≠ some (.box i)) /\ ∀ k' j' t xs deep m, G.ow c = some (.own k' j') -> (aU (S.aC k') j').fB ≠ .own t xs deep m)
  (hos : OwT w G.S deep m t xs v lab) :
  ∃ G', Inv w0 G' ((S.bM d [.own t xs deep m]).fU d (.v (.one (.own d 0)))) (a.put (some d) v) w := by
 by_cases hdl : d < S.tmps.length
 case neg =>
  refine ⟨G, ?_⟩
  rw [Bv h.tsz hdl, vZ (by rw [h.osz]; exact hdl), vY hdl]
  exact h
 classical
 obtain ⟨G', h', hm, hlk, hov⟩ := h.O4 d [.own t xs deep m] (fun _ => v) (fun c => if lab c then some 0 else none) hd hdl (by simp)
  (fun c j hc => by
   by_cases hl : lab c
   ·exact hlab c hl
   ·rw [if_neg hl] at hc; cases hc)
  (fun j => by
   cases j with
   | zero =>
    show OwT w G.S deep m t xs v _
    exact OwT.move hos (fun b o hs => ⟨hs, rfl⟩) (fun b hb => ⟨if_pos hb, rfl⟩) (fun _ _ _ _ _ o hs => .inl hs)
   | succ j => trivial)
 exact ⟨G', h'.fU d (av := .v (.one (.own d 0))) ⟨hlk, (hov 0).symm, (OwT.ow hos).one⟩⟩
theorem Gt {t : Ty} : ∀ {vs : List V} {xs : List t.den}, (WL t vs).val S = some xs -> xs.length = vs.length /\ (∀ v ∈ vs, v.cells.length = t.size) /\
  ∀ (i : Nat) (x : t.den), xs[i]? = some x -> ∃ v, vs[i]? = some v /\ ∀ (j : Nat) (d : D), (t.cells x)[j]? = some d -> ∃ c ty, v.cells[j]? = some c /\ (cD ty c).val S = some d
 | [], xs, h => by
  simp only [WL, Rd.val, zD] at h
  subst h
  exact ⟨rfl, fun v hv => (by cases hv), fun i x hx => (by simp at hx)⟩
 | v :: vs, xs, h => by
  simp only [WL, Rd.ak, zB, Rd.val, zD] at h
  obtain ⟨x, h1, xs', h2, rfl⟩ := h
  obtain ⟨hl, hc, hg⟩ := Gt h2
  simp only [vEl] at h1
  split at h1
  ·rename_i hsz
   simp only [Rd.ak, zB, Rd.val, zD] at h1
   obtain ⟨ds, h3, y, h4, h5⟩ := h1
   subst h5
   refine ⟨by simp [hl], fun u hu => ?_, fun i z hz => ?_⟩
   ·rcases List.mem_cons.1 hu with rfl | hu
    ·exact hsz
    ·exact hc u hu
   ·cases i with
    | zero =>
     simp at hz
     subst hz
     refine ⟨v, rfl, fun j d hd => ?_⟩
     rw [Ty.bV h4] at hd
     have key : ∀ (tys : List (Option Ty)) (cs : List C) (ds : List D), (cDs tys cs).val S = some ds -> ∀ (j : Nat) (d : D), ds[j]? = some d -> ∃ c ty, cs[j]? = some c /\ (cD ty c).val S = some d := by
      intro tys
      induction tys with
      | nil => intro cs ds hh j d hd; simp only [cDs, Rd.val, zD] at hh; subst hh; simp at hd
      | cons ty tys ih =>
       intro cs ds hh j d hd
       cases cs with
       | nil => simp only [cDs, Rd.val, zD] at hh; subst hh; simp at hd
       | cons c cs =>
        simp only [cDs, Rd.ak, zB, Rd.val, zD] at hh
        obtain ⟨d0, e1, ds0, e2, rfl⟩ := hh
        cases j with
        | zero => simp at hd; subst hd; exact ⟨c, ty, rfl, e1⟩
        | succ j => exact ih cs ds0 e2 j d (by simpa using hd)
     exact key _ _ _ h3 j d hd
    | succ i => exact hg i z (by simpa using hz)
  ·cases h1
theorem Yd (h : Inv w0 G S a w) {t : Ty} {vs : List V} {xs : List t.den} (hx : (WL t vs).val S = some xs) {vals : List Value} (hc : bY G w (vs.flatMap V.cells) vals)
  {dp : Bool} (hdp : (qM (vs.flatMap V.cells)).val S = some dp) {S' : Nat -> Nat -> Prop} (hS : ∀ x o, (G.S x o \/ AK G S (aI (vs.flatMap V.cells)) x o) -> S' x o) :
  ∀ (i : Nat) (x : t.den) (j : Nat) (d : D), xs[i]? = some x -> (t.cells x)[j]? = some d ->
   ∃ c v, (vs.flatMap V.cells)[i * t.size + j]? = some c /\ vals[i * t.size + j]? = some v /\ Ow w S' dp d v (rowsOf G S c) := by
 intro i x j d hxi hd
 obtain ⟨hl, hsz, hg⟩ := Gt hx
 obtain ⟨v, hv, hcell⟩ := hg i x hxi
 obtain ⟨c, ty, hcj, hcd⟩ := hcell j d hd
 have hj : j < t.size := by
  have := (zC.1 hd).1
  rwa [Ty.aQ] at this
 have hfl : (vs.flatMap V.cells)[i * t.size + j]? = some c := by rw [flat_get V.cells t.size vs hsz i j v hv hj]; exact hcj
 obtain ⟨hlen, hrep⟩ := hc.get
 have hlt : i * t.size + j < vals.length := by have := (zC.1 hfl).1; omega
 have hcr := hrep _ c vals[i * t.size + j] hfl (by simp [hlt])
 obtain ⟨b, hb1, hb2⟩ := uQ hdp _ c hfl
 exact ⟨c, vals[i * t.size + j], hfl, by simp [hlt], P6 h hcd hcr hb1 hb2 hS fun k j' e => fO (e ▸ zG hfl)⟩
theorem Iw (h : Inv w0 G S a w) (sz : Nat) : ∀ {parts : List (Nat × Operand)} {k : Nat} {vs : List V} {arr : Array Value}, (Iy parts k).val S = some vs -> (∀ v ∈ vs, v.cells.length = sz) -> (k + vs.length) * sz <= arr.size ->
  ∃ vals : List Value, bY G w (vs.flatMap V.cells) vals /\ Instr.fill (fun i => some (i * sz, sz)) arr (parts.map fun p => (p.1, a.eval p.2)) = some (bT arr.toList (k * sz) vals).toArray
 | [], k, vs, arr, hv, _, _ => by
  simp only [Iy, Rd.val, zD] at hv
  subst hv
  exact ⟨[], trivial, by simp [Instr.fill, bT]⟩
 | (i, x) :: r, k, vs, arr, hv, hsz, hl => by
  simp only [Iy] at hv
  split at hv
  ·rename_i hik
   subst hik
   simp only [Rd.ak, zB, Rd.val, zD] at hv
   obtain ⟨av, h1, v, h2, vs', h3, rfl⟩ := hv
   have hr := lZ h2 (aS h h1)
   obtain ⟨us, hus, hcs⟩ := hr.NT
   have hvl := hsz v List.mem_cons_self
   have hul := hcs.length
   have hle : i * sz + sz <= arr.size := by
    have : (i + 1) * sz <= arr.size := Nat.le_trans (Nat.mul_le_mul_right _ (by simp)) hl
    rwa [Nat.succ_mul] at this
   obtain ⟨vals, h4, h5⟩ := Iw h sz (arr := (bT arr.toList (i * sz) us).toArray) h3 (fun u hu => hsz u (List.mem_cons_of_mem _ hu))
    (by
     have e := qG arr.toList (i * sz) us (by simp; omega)
     have e2 : i + 1 + vs'.length = i + (vs'.length + 1) := by omega
     simp only [List.length_cons] at hl
     rw [e2]
     show _ <= (bT arr.toList (i * sz) us).length
     rw [e]; exact hl)
   refine ⟨us ++ vals, ?_, ?_⟩
   ·simp only [List.flatMap_cons]
    obtain ⟨l1, g1⟩ := hcs.get
    obtain ⟨l2, g2⟩ := h4.get
    refine bY.mk (by simp only [List.length_append, l1, l2]) fun p c u hc hu => ?_
    rw [List.getElem?_append] at hc hu
    split at hc
    ·rename_i hp; rw [if_pos (by omega)] at hu; exact g1 p c u hc hu
    ·rename_i hp; rw [if_neg (by omega)] at hu; rw [l1] at hc; exact g2 _ c u hc hu
   ·simp only [List.map_cons]
    rw [SG (n := sz) (off := i * sz) rfl hus (by omega) hle, h5]
    congr 1
    simp only [bT]
    have e : (i + 1) * sz = i * sz + sz := Nat.succ_mul _ _
    rw [e]
    have hsl : us.length = sz := by omega
    congr 1
    apply List.ext_getElem?
    intro p
    simp only [List.getElem?_append, List.getElem?_take, List.getElem?_drop, List.length_append, List.length_take, Array.length_toList, hsl]
    have m1 : min (i * sz) arr.size = i * sz := by omega
    have m2 : min (i * sz + sz) (i * sz + sz + (arr.size - (i * sz + sz))) = i * sz + sz := by omega
    simp only [m1, List.length_drop, Array.length_toList, m2]
    by_cases p1 : p < i * sz
    ·have : p < i * sz + sz := by omega
     have p2 : p < i * sz + sz + vals.length := by omega
     have p3 : p < i * sz + (sz + vals.length) := by omega
     simp [p1, this, p2, p3]
    ·by_cases p4 : p < i * sz + sz
     ·have p2 : p < i * sz + sz + vals.length := by omega
      have p3 : p < i * sz + (sz + vals.length) := by omega
      have p5 : p - i * sz < sz := by omega
      simp [p1, p4, p2, p3, p5]
     ·by_cases p2 : p < i * sz + sz + vals.length
      ·have p3 : p < i * sz + (sz + vals.length) := by omega
       have p5 : ¬ p - i * sz < sz := by omega
       have p6 : p - (i * sz + sz) = p - i * sz - sz := by omega
       simp [p1, p4, p2, p3, p5, p6]
      ·have p3 : ¬ p < i * sz + (sz + vals.length) := by omega
       have p7 : ¬ (i * sz + sz + vals.length + (p - (i * sz + sz + vals.length)) < i * sz) := by omega
       have p8 : ¬ (i * sz + sz + vals.length + (p - (i * sz + sz + vals.length)) < i * sz + sz) := by omega
       simp only [p2, p3, p7, p8, if_false]
       congr 1
       omega
  ·cases hv
theorem KQ (h : Inv w0 G S a w) {T : TypeId} {n : Nat} {parts : Array (Nat × Operand)} (ho : o.op = .buildSlice T n parts) {E : Env} (hT : E.tt.ok P = true) {ws : List W} (hv : (eff E o).val S = some ws)
  (hK : ∀ a' w' G', Inv w0 G' (S.puts ws) a' w' -> K a' w') : o.wp P a w K Q := by
 unfold eff at hv
 rw [ho] at hv
 simp only at hv
 split at hv
 ·rename_i d t hd ht
  obtain ⟨e, inf, z, hu, hi, hsz, hby, hz, hzs, hzm⟩ := TT.gY hT ht
  simp only [Rd.ak, zB] at hv
  obtain ⟨vs, h1, hv⟩ := hv
  split at hv
  ·rename_i hn
   simp only [Rd.ak, zB] at hv
   obtain ⟨xs, h2, dp, h3, hv⟩ := hv
   split at hv
   ·rename_i hnd
    simp only [Rd.ak, zB, Rd.val, zD] at hv
    obtain ⟨ws', h4, rfl⟩ := hv
    obtain ⟨hdO, rfl⟩ := eG h4
    obtain ⟨hxl, hvsz, _⟩ := Gt h2
    let arr0 : Array Value := (Array.range (n * t.size)).map (fun m => (if n * t.size = 0 then (#[] : Array Value) else z.cells)[m % (if n * t.size = 0 then (#[] : Array Value) else z.cells).size]!)
    have harr0 : arr0.size = n * t.size := by simp [arr0]
    obtain ⟨vals, hvals, hfill⟩ := Iw h t.size (arr := arr0) h1 hvsz (by rw [Nat.zero_add, hn.1, harr0]; exact Nat.le_refl _)
    have hvl : vals.length = n * t.size := by rw [<- hvals.length, flat_length V.cells t.size vs hvsz, hn.1]
    have hset : bT arr0.toList (0 * t.size) vals = vals := by
     simp [bT, hvl, harr0]
    rw [hset] at hfill
    obtain ⟨G1, h5, m5, e5, n5⟩ := Inv.Qk (aI (vs.flatMap V.cells)) h hnd
    have hbel : Below w.heap.size w (w.alloc (.cells vals.toArray e)) := (Below.refl _ _).alloc (Nat.le_refl _) _
    have h6 := h5.grow hbel
    have hnew := heap_alloc_new w (.cells vals.toArray e)
    -- the list
    have hO : OwT (w.alloc (.cells vals.toArray e)) G1.S dp true t xs (.slice (some ⟨w.heap.size, 0, none⟩) n n)
      (fun c => c = w.heap.size \/ ∃ (p : Nat) (cc : C), (vs.flatMap V.cells)[p]? = some cc /\ rowsOf G S cc c) := by
     have hel := Yd h h2 hvals h3 (S' := G1.S) fun x o hs => (m5.s x o).2 hs
     refine .inr ⟨w.heap.size, n, vals.toArray, e, fun i j => vals.getD (i * t.size + j) undef,
      fun i j c => j < t.size /\ i < xs.length /\ ∃ cc : C, (vs.flatMap V.cells)[i * t.size + j]? = some cc /\ rowsOf G S cc c, ?_, hnew, ?_, ?_, ?_, .inl rfl, ?_, ?_, ?_, ?_, ?_⟩
     ·rw [hxl, hn.1]
     ·rw [hxl, hn.1]; exact Nat.le_refl _
     ·have := hn.2
      have hp := t.size_pos
      have : n <= n * t.size := Nat.le_mul_of_pos_right _ hp
      unfold maxLen; omega
     ·simp [hvl]
     ·intro i x j dd hxi hdd
      obtain ⟨c, v, _, hv, _⟩ := hel i x j dd hxi hdd
      simp only [List.getElem?_toArray, zE, hv, Option.getD_some]
     ·intro i x j dd hxi hdd
      obtain ⟨c, v, hc, hv, hw⟩ := hel i x j dd hxi hdd
      have hj : j < t.size := by
       have := (zC.1 hdd).1
       rwa [Ty.aQ] at this
      simp only [zE, hv, Option.getD_some]
      refine (hw.move (S' := G1.S) (fun x o hs => ⟨hs, hbel.cell (p := ⟨x, o, none⟩) (h5.sok x o hs).1⟩) fun c' hc' => ?_).sub (fun c' hc' => ⟨hj, (zC.1 hxi).1, c, hc, hc'⟩) fun e => e
      obtain ⟨k, jj, _, how, _⟩ := hc'
      exact hbel.block _ (h.olt _ _ how).2
     ·rintro i j c ⟨_, _, cc, hcc, hrow⟩
      refine ⟨.inr ⟨_, cc, hcc, hrow⟩, ?_⟩
      obtain ⟨k, jj, _, how, _⟩ := hrow
      have := (h.olt _ _ how).2
      omega
     ·rintro i j i' j' c ⟨hj, hi', cc, hcc, k, l, rfl, how, _⟩ ⟨hj', _, cc', hcc', k', l', rfl, how', _⟩
      rw [how] at how'
      cases how'
      exact L9 hj hj' (eX hnd hcc hcc')
     ·intro oo hs
      exact absurd (h5.sok _ oo hs).1 (Nat.lt_irrefl _)
    obtain ⟨G2, h7⟩ := h6.O5 d (v := .slice (some ⟨w.heap.size, 0, none⟩) n n) (fun c => c = w.heap.size \/ ∃ (p : Nat) (cc : C), (vs.flatMap V.cells)[p]? = some cc /\ rowsOf G S cc c) (n5 d hdO) (fun c hc => by
     rcases hc with rfl | ⟨p, cc, hcc, k, jj, rfl, how, t', xs', deep', m', hown⟩
     ·refine ⟨h.below.size, by simp, fun i hb => ?_, fun k' j' _ _ _ _ hb => ?_⟩
      ·rw [m5.ow] at hb; exact absurd (h.olt _ _ hb).2 (Nat.lt_irrefl _)
      ·rw [m5.ow] at hb; exact absurd (h.olt _ _ hb).2 (Nat.lt_irrefl _)
     ·have hlt := h.kz how
      refine ⟨hlt.1, by simp; omega, fun i hb => ?_, fun k' j' t2 xs2 d2 m2 hb => ?_⟩
      ·rw [m5.ow, how] at hb; cases hb
      ·rw [m5.ow, how] at hb
       cases hb
       rw [e5, if_pos (fO (zG hcc))]
       exact O.Gy hown _ _ _ _) hO
    refine aJ (v := .slice (some ⟨w.heap.size, 0, none⟩) n n) (w' := w.alloc (.cells vals.toArray e)) ?_ (hK _ _ G2 ?_)
    ·have hf2 : Instr.fill (fun i => some (i * inf.size, inf.size)) arr0 (parts.toList.map fun p => (p.1, a.eval p.2)) = some vals.toArray := by rw [hsz]; exact hfill
     unfold execOp
     simp only [ho, Instr.buildSlice, Sem.run_bind, run_underlying hu, Result.andThen_ok, sizeOf, typeInfo, run_program, hi, Sem.run_pure, hsz]
     have hle : ¬ n * t.size > 2 ^ 24 := by have := hn.2; omega
     simp only [hle, if_false]
     have e0 : ∀ f : Nat -> Value, Array.map f (Array.range 0) = #[] := fun f => Array.eq_empty_of_size_eq_zero (by simp)
     by_cases h0 : n * t.size = 0
     ·simp only [h0, if_true]
      simp only [arr0, h0, if_true, e0] at hf2
      rw [hsz] at hf2
      simp [hf2, newRow, e0]
     ·simp only [h0, if_false, Sem.run_bind, zeroValue, typeInfo, run_program, Result.andThen_ok, hi, Sem.run_pure, hz]
      simp only [arr0, h0, if_false] at hf2
      rw [hsz] at hf2
      simp [hf2, newRow]
    ·rw [hd, dM, dM]
     exact h7
   ·cases hv
  ·cases hv
 ·cases hv
end ops
end Go.Abs
namespace Go.Abs
open Go.RowKit
theorem L6 {w : World} {S : Nat -> Nat -> Prop} {dp : Bool} {fp : Nat -> Prop} : ∀ (ds : List D) (vs : List Value), jJ (ds.map .d) vs = true -> ∀ (j : Nat) (d : D) (v : Value), ds[j]? = some d -> vs[j]? = some v -> Ow w S dp d v fp
 | [], vs, _, j, d, v, hd, _ => by simp at hd
 | d0 :: ds, [], h, j, d, v, _, hv => by simp at hv
 | d0 :: ds, v0 :: vs, h, j, d, v, hd, hv => by
  have key : Ow w S dp d0 v0 fp /\ jJ (ds.map .d) vs = true := by
   simp only [List.map_cons] at h
   unfold jJ at h
   split at h
   ·simp_all
   ·rename_i k n cs' k' n' vs' e1 e2
    cases e2
    injection e1 with e1 e3
    injection e1 with e1
    subst e1; subst e3
    simp only [zI, decide_eq_true_eq] at h
    obtain ⟨⟨rfl, rfl⟩, h3⟩ := h
    exact ⟨.int _ _ _, h3⟩
   ·rename_i b cs' b' vs' e1 e2
    cases e2
    injection e1 with e1 e3
    injection e1 with e1
    subst e1; subst e3
    simp only [zI, beq_iff_eq] at h
    obtain ⟨rfl, h3⟩ := h
    exact ⟨.bool _ _, h3⟩
   ·rename_i s cs' v' vs' e1 e2
    cases e2
    injection e1 with e1 e3
    injection e1 with e1
    subst e1; subst e3
    simp only [zI, decide_eq_true_eq] at h
    obtain ⟨rfl, h3⟩ := h
    exact ⟨.str _ _, h3⟩
   ·rename_i cs' vs' e1 e2
    injection e1 with e1 e3
    cases e1
   ·rename_i t cs' vs' e1 e2
    cases e2
    injection e1 with e1 e3
    injection e1 with e1
    subst e1; subst e3
    exact ⟨.nil _ _, h⟩
   ·cases h
  cases j with
  | zero => simp at hd hv; subst hd; subst hv; exact key.1
  | succ j => exact L6 ds vs key.2 j d v (by simpa using hd) (by simpa using hv)
section ops
variable {P : Program} {w0 : Bs} {G : Gh} {S : St} {a : Act} {w : World} {o : Oper} {K : Act -> World -> Prop} {Q : Exit -> Act -> World -> Prop}
theorem OV (h : Inv w0 G S a w) {T : TypeId} {l c : Operand} (ho : o.op = .makeSlice T l c) {E : Env} (hT : E.tt.ok P = true) {ws : List W} (hv : (eff E o).val S = some ws)
  (hK : ∀ a' w' G', Inv w0 G' (S.puts ws) a' w' -> K a' w') : o.wp P a w K Q := by
 unfold eff at hv
 rw [ho] at hv
 simp only at hv
 split at hv
 ·rename_i d t hd ht
  obtain ⟨e, inf, z, hu, hi, hsz, hby, hz, hzs, hzm⟩ := TT.gY hT ht
  split at hv
  ·rename_i i j
   split at hv
   ·rename_i hij
    subst hij
    simp only [Rd.ak, zB, Rd.val, zD] at hv
    obtain ⟨av, h1, n, h2, m, h3, ws', h4, rfl⟩ := hv
    obtain ⟨kk, hn⟩ := oO h2 (aS h h1)
    obtain ⟨hdO, rfl⟩ := eG h4
    unfold mk at h3
    split at h3
    case isFalse => cases h3
    rename_i hbd
    simp only [zD] at h3
    subst h3
    have hwrap : IntKind.i64.wrap n = n := IntWalk.i64_in (by omega) (by omega)
    let Z : Array Value := if n.toNat * t.size = 0 then #[] else z.cells
    let arr : Array Value := (Array.range (n.toNat * t.size)).map (fun m => Z[m % Z.size]!)
    have hbel : Below w.heap.size w (w.alloc (.cells arr e)) := (Below.refl _ _).alloc (Nat.le_refl _) _
    have h6 := h.grow hbel
    have hnew := heap_alloc_new w (.cells arr e)
    have hp := t.size_pos
    have hO : OwT (w.alloc (.cells arr e)) G.S true true t (List.replicate n.toNat t.zero) (.slice (some ⟨w.heap.size, 0, none⟩) n.toNat n.toNat) (fun c => c = w.heap.size) := by
     refine .inr ⟨w.heap.size, n.toNat, arr, e, fun _ j => z.cells.toList.getD j undef, fun _ _ _ => False, by simp, hnew, by simp, ?_, by simp [arr], rfl, ?_, ?_, ?_, ?_, ?_⟩
     ·unfold maxLen; omega
     ·intro i x j dd hxi hdd
      have hi' : i < n.toNat := by have := (zC.1 hxi).1; simpa using this
      have hj : j < t.size := by
       have := (zC.1 hdd).1
       rwa [Ty.aQ] at this
      have hlt : i * t.size + j < n.toNat * t.size := by
       have : (i + 1) * t.size <= n.toNat * t.size := Nat.mul_le_mul_right _ hi'
       rw [Nat.succ_mul] at this
       omega
      have hZ : Z = z.cells := if_neg (by omega)
      have hmod : (i * t.size + j) % t.size = j := by rw [Nat.mul_comm, Nat.mul_add_mod, Nat.mod_eq_of_lt hj]
      have hjz : j < z.cells.size := by omega
      simp [arr, hlt, hZ, hzs, hmod]
      rw [getElem!_pos z.cells j hjz, getElem?_pos z.cells j hjz]; rfl
     ·intro i x j dd hxi hdd
      have hx0 : x = t.zero := by
       have := zG hxi
       exact (List.mem_replicate.1 this).2
      subst hx0
      have hj : j < t.size := by
       have := (zC.1 hdd).1
       rwa [Ty.aQ] at this
      have hjz : j < z.cells.toList.length := by simp; omega
      exact L6 _ _ hzm j dd _ hdd (by show z.cells.toList[j]? = some (z.cells.toList.getD j undef); rw [zE, zF hjz]; rfl)
     ·intro _ _ _ hf; exact hf.elim
     ·intro _ _ _ _ _ hf; exact hf.elim
     ·intro oo hs
      exact absurd (h.sok _ oo hs).1 (Nat.lt_irrefl _)
    obtain ⟨G2, h7⟩ := h6.O5 d (v := .slice (some ⟨w.heap.size, 0, none⟩) n.toNat n.toNat) (fun c => c = w.heap.size) hdO (fun c hc => by
     subst hc
     exact ⟨h.below.size, by simp, fun i hb => absurd (h.olt _ _ hb).2 (Nat.lt_irrefl _), fun k' j' _ _ _ _ hb => absurd (h.olt _ _ hb).2 (Nat.lt_irrefl _)⟩) hO
    refine aJ (v := .slice (some ⟨w.heap.size, 0, none⟩) n.toNat n.toNat) (w' := w.alloc (.cells arr e)) ?_ (hK _ _ G2 ?_)
    ·have hb2 : (inf.bytes : Int) * n <= 140737488355328 := by
      have h1 : (inf.bytes : Int) * n <= 4096 * n := Int.mul_le_mul_of_nonneg_right (by omega) hbd.1
      omega
     have htl : (decide (n < 0) || decide ((inf.bytes : Int) * n > 2 ^ 48)) = false := by
      simp only [Bool.or_eq_false_iff, decide_eq_false_iff_not]
      omega
     unfold execOp
     simp only [ho, Instr.makeSlice, Sem.run_bind, run_underlying hu, Result.andThen_ok, hn, asInt, asIntOf, Sem.run_pure, typeInfo, run_program, hi, hwrap, htl, sizeOf]
     have h0n : ¬ n < 0 := by omega
     simp only [h0n, decide_false, Bool.false_or, gt_iff_lt, Int.lt_irrefl, Bool.false_eq_true, if_false]
     have e0 : ∀ f : Nat -> Value, Array.map f (Array.range 0) = #[] := fun f => Array.eq_empty_of_size_eq_zero (by simp)
     by_cases h0 : n.toNat * t.size = 0
     ·simp [h0, e0, newRow, arr, hi, hsz]
     ·simp [h0, zeroValue, typeInfo, hi, hz, hsz, newRow, arr, Z]
    ·rw [hd]
     exact h7
   ·cases hv
  ·cases hv
 ·cases hv
end ops
end Go.Abs
namespace Go.Abs
open Go.RowKit
section ops
variable {P : Program} {w0 : Bs} {G : Gh} {S : St} {a : Act} {w : World} {o : Oper} {K : Act -> World -> Prop} {Q : Exit -> Act -> World -> Prop}
theorem vX {n p : Nat} : p = p / n * n + p % n := by
 have := Nat.div_add_mod p n
 rw [Nat.mul_comm] at this
 omega
theorem rQ {i j n m : Nat} (hi : i < m) (hj : j < n) : i * n + j < m * n := by
 have : (i + 1) * n <= m * n := Nat.mul_le_mul_right _ hi
 rw [Nat.succ_mul] at this
 omega
theorem CP {t : Ty} {xs : List t.den} {p : Nat} (hp : p < xs.length * t.size) : ∃ x d, xs[p / t.size]? = some x /\ (t.cells x)[p % t.size]? = some d := by
 have hs := t.size_pos
 have hi : p / t.size < xs.length := Nat.div_lt_of_lt_mul (by rw [Nat.mul_comm]; exact hp)
 have hj : p % t.size < t.size := Nat.mod_lt _ hs
 have hj' : p % t.size < (t.cells xs[p / t.size]).length := by rw [Ty.aQ]; exact hj
 exact ⟨xs[p / t.size], (t.cells xs[p / t.size])[p % t.size], by simp [hi], by simp [hj']⟩
theorem OwT.laid {S : Nat -> Nat -> Prop} {deep m : Bool} {t : Ty} {xs : List t.den} {v : Value} {fp : Nat -> Prop} (h : OwT w S deep m t xs v fp) :
  (v = .slice none 0 0 /\ xs = []) \/ ∃ b cap arr E rest cells, v = .slice (some ⟨b, 0, none⟩) xs.length cap /\ w.heap[b]? = some (.cells arr E (0, 0)) /\ xs.length <= cap /\ cap <= maxLen /\ arr.size = cap * t.size /\ fp b /\
   arr.toList = cells ++ rest /\ jI w S deep t xs cells (fun c => fp c /\ c ≠ b) /\ (∀ o, S b o -> m = false /\ o < xs.length * t.size) := by
 rcases h with h | ⟨b, cap, arr, E, vs, fps, rfl, hb, hcap, hmax, hsz, hfb, hc, hr, hf, hdis, hs⟩
 ·exact .inl h
 ·have hle : xs.length * t.size <= arr.toList.length := by
   have e : arr.toList.length = arr.size := Array.length_toList
   rw [e, hsz]; exact Nat.mul_le_mul_right _ hcap
  have hcell : ∀ (i : Nat) (x : t.den) (j : Nat) (d : D), xs[i]? = some x -> (t.cells x)[j]? = some d -> (arr.toList.take (xs.length * t.size))[i * t.size + j]? = some (vs i j) := by
   intro i x j d hx hd
   have hi : i < xs.length := (zC.1 hx).1
   have hj : j < t.size := by
    have := (zC.1 hd).1
    rwa [Ty.aQ] at this
   rw [List.getElem?_take, if_pos (rQ hi hj)]
   simpa using hc i x j d hx hd
  refine .inr ⟨b, cap, arr, E, arr.toList.drop (xs.length * t.size), arr.toList.take (xs.length * t.size), rfl, hb, hcap, hmax, hsz, hfb, (List.take_append_drop _ _).symm, ⟨?_, ?_, vs, fps, fun i x j d hx hd => ⟨hcell i x j d hx hd, hr i x j d hx hd⟩, hf, hdis⟩, hs⟩
  ·rw [List.length_take]; omega
  ·intro v hv
   obtain ⟨p, hp0, rfl⟩ := List.mem_iff_getElem.1 hv
   have hp := hp0
   rw [List.length_take] at hp
   obtain ⟨x, d, hx, hd⟩ := CP (t := t) (xs := xs) (p := p) (by omega)
   have e := hcell _ _ _ _ hx hd
   rw [<- vX (n := t.size)] at e
   have e2 : (arr.toList.take (xs.length * t.size))[p]? = some (arr.toList.take (xs.length * t.size))[p] := zF hp0
   rw [e2] at e
   rw [Option.some.inj e]
   exact (hr _ _ _ _ hx hd).one
theorem ER {w' : World} {S S' : Nat -> Nat -> Prop} {deep dp m : Bool} {t : Ty} {xs ys : List t.den} {olds news rest : List Value} {labD labS : Nat -> Prop}
  (hD : jI w S deep t xs olds labD) (hY : jI w S dp t ys news labS) (hds : ∀ c, labD c -> labS c -> False)
  {g cap : Nat} {arr : Array Value} {E : TypeId} (hb : w'.heap[g]? = some (.cells arr E (0, 0))) (harr : arr.toList = olds ++ news ++ rest) (hcap : xs.length + ys.length <= cap) (hmax : cap <= maxLen) (hsz : arr.size = cap * t.size)
  {lab : Nat -> Prop} (hg : lab g) (hl : ∀ c, labD c \/ labS c -> lab c /\ c ≠ g /\ w'.heap[c]? = w.heap[c]?) (hS : ∀ b o, S b o -> S' b o /\ w'.cell? ⟨b, o, none⟩ = w.cell? ⟨b, o, none⟩)
  (hT : ∀ o, S' g o -> m = false /\ o < (xs.length + ys.length) * t.size) :
  OwT w' S' (deep && dp) m t (xs ++ ys) (.slice (some ⟨g, 0, none⟩) (xs.length + ys.length) cap) lab := by
 obtain ⟨l1, o1, vs1, fps1, c1, f1, d1⟩ := hD
 obtain ⟨l2, o2, vs2, fps2, c2, f2, d2⟩ := hY
 refine .inr ⟨g, cap, arr, E, fun i j => if i < xs.length then vs1 i j else vs2 (i - xs.length) j, fun i j c => if i < xs.length then fps1 i j c else fps2 (i - xs.length) j c, by rw [List.length_append], hb, by rw [List.length_append]; exact hcap, hmax, hsz, hg, ?_, ?_, ?_, ?_, ?_⟩
 ·intro i x j d hx hd
  have hj : j < t.size := by
   have := (zC.1 hd).1
   rwa [Ty.aQ] at this
  rw [<- Array.getElem?_toList, harr]
  by_cases hi : i < xs.length
  ·rw [List.getElem?_append_left hi] at hx
   have h1 := (c1 i x j d hx hd).1
   have hlt := rQ hi hj
   rw [List.append_assoc, List.getElem?_append_left (by omega), h1]
   simp [hi]
  ·rw [List.getElem?_append_right (by omega)] at hx
   have h1 := (c2 (i - xs.length) x j d hx hd).1
   have hi2 : i - xs.length < ys.length := (zC.1 hx).1
   have hlt := rQ hi2 hj
   have e : i * t.size + j = xs.length * t.size + ((i - xs.length) * t.size + j) := by
    rw [<- Nat.add_assoc, <- Nat.add_mul]; congr 2; omega
   rw [List.append_assoc, List.getElem?_append_right (by omega), List.getElem?_append_left (by omega), l1, e, Nat.add_sub_cancel_left, h1]
   simp [hi]
 ·intro i x j d hx hd
  by_cases hi : i < xs.length
  ·rw [List.getElem?_append_left hi] at hx
   simp only [hi, if_true]
   exact ((c1 i x j d hx hd).2.move hS fun c hc => (hl c (.inl (f1 i j c hc))).2.2).sub (fun _ hc => hc) fun e => (zI _ _ ▸ e).1
  ·rw [List.getElem?_append_right (by omega)] at hx
   simp only [hi, if_false]
   exact ((c2 _ x j d hx hd).2.move hS fun c hc => (hl c (.inr (f2 _ j c hc))).2.2).sub (fun _ hc => hc) fun e => (zI _ _ ▸ e).2
 ·intro i j c hc
  by_cases hi : i < xs.length
  ·simp only [hi, if_true] at hc
   have := hl c (.inl (f1 i j c hc)); exact ⟨this.1, this.2.1⟩
  ·simp only [hi, if_false] at hc
   have := hl c (.inr (f2 _ j c hc)); exact ⟨this.1, this.2.1⟩
 ·intro i j i' j' c hc hc'
  by_cases hi : i < xs.length
  ·simp only [hi, if_true] at hc
   by_cases hi' : i' < xs.length
   ·simp only [hi', if_true] at hc'; exact d1 _ _ _ _ _ hc hc'
   ·simp only [hi', if_false] at hc'; exact (hds c (f1 _ _ _ hc) (f2 _ _ _ hc')).elim
  ·simp only [hi, if_false] at hc
   by_cases hi' : i' < xs.length
   ·simp only [hi', if_true] at hc'; exact (hds c (f1 _ _ _ hc') (f2 _ _ _ hc)).elim
   ·simp only [hi', if_false] at hc'
    have := d2 _ _ _ _ _ hc hc'
    omega
 ·intro oo hs
  rw [List.length_append]; exact hT oo hs
theorem qx {t : Ty} (hf : t.flat = true) {x : t.den} {j : Nat} {d : D} (hd : (t.cells x)[j]? = some d) : ji d = none := by
 have h1 : ((t.cells x).map ji)[j]? = some (ji d) := by simp [hd]
 rw [Gu] at h1
 have := List.all_eq_true.1 hf _ (zG h1)
 simpa using this
theorem Di {S S' : Nat -> Nat -> Prop} {dp : Bool} {d : D} {v : Value} {fp : Nat -> Prop} (hd : ji d = none) (h : Rep w S d v) : Ow w S' dp d v fp := by
 cases h with
 | int k n => exact .int k n fp
 | bool b => exact .bool b fp
 | str s => exact .str s fp
 | nil t => cases hd
 | emp t a cap => cases hd
 | list t xs b off cap vs hcap hc hr => cases hd
theorem AY (h : Inv w0 G S a w) {t : Ty} {ys : List t.den} {c : C} {v : Value} {dp : Bool} (hd : (cD (some t) c).val S = some (.list t ys)) (hc : kY G w c v)
  (hdp : ((if t.flat then Rd.ret true else y9 c)).val S = some dp) {S' : Nat -> Nat -> Prop} (hS : ∀ x o, (G.S x o \/ AK G S (aI [c]) x o) -> S' x o) :
  ((∃ (ad : Option Addr) (cap : Nat), v = .slice ad 0 cap /\ (ad = none -> cap = 0)) /\ ys = []) \/ ∃ b off cap news, v = .slice (some ⟨b, off, none⟩) ys.length cap /\ (∀ p u, news[p]? = some u -> w.cell? ⟨b, off + p, none⟩ = some u) /\
   jI w S' dp t ys news (fun x => t.flat = false /\ rowsOf G S c x) := by
 have hrep := JY h hd hc (aI [c]) (fun k j e => by subst e; simp [aI])
 generalize hdd : D.list t ys = dd at hrep
 cases hrep with
 | int => cases hdd
 | bool => cases hdd
 | str => cases hdd
 | nil t' => cases hdd; exact .inl ⟨⟨none, 0, rfl, fun _ => rfl⟩, rfl⟩
 | emp t' ad cap => cases hdd; exact .inl ⟨⟨some ad, cap, rfl, fun hh => (by cases hh)⟩, rfl⟩
 | list t' xs' b off cap vs hcap hcc hr =>
  cases hdd
  have hnews : ∀ (p : Nat) (u : Value), ((List.range (ys.length * t.size)).map fun p => vs (p / t.size) (p % t.size))[p]? = some u -> p < ys.length * t.size /\ u = vs (p / t.size) (p % t.size) := by
   intro p u hu
   simp only [List.getElem?_map, Option.map_eq_some_iff] at hu
   obtain ⟨q, hq, rfl⟩ := hu
   have hlt : p < ys.length * t.size := by have := (zC.1 hq).1; simpa using this
   have : q = p := by simp [hlt] at hq; exact hq.symm
   rw [this]; exact ⟨hlt, rfl⟩
  have hget : ∀ (i j : Nat), i < ys.length -> j < t.size -> ((List.range (ys.length * t.size)).map fun p => vs (p / t.size) (p % t.size))[i * t.size + j]? = some (vs i j) := by
   intro i j hi hj
   have hlt := rQ hi hj
   have e1 : (i * t.size + j) / t.size = i := by rw [Nat.mul_comm, Nat.mul_add_div t.size_pos, Nat.div_eq_of_lt hj]; omega
   have e2 : (i * t.size + j) % t.size = j := by rw [Nat.mul_comm, Nat.mul_add_mod, Nat.mod_eq_of_lt hj]
   simp [hlt, e1, e2]
  refine .inr ⟨b, off, cap, (List.range (ys.length * t.size)).map fun p => vs (p / t.size) (p % t.size), rfl, ?_, by simp, ?_, ?_⟩
  ·intro p u hu
   obtain ⟨hlt, rfl⟩ := hnews p u hu
   obtain ⟨x, d, hx, hd'⟩ := CP (t := t) (xs := ys) hlt
   have := (hcc _ _ _ _ hx hd').1
   rw [<- vX (n := t.size)] at this
   exact this
  ·intro u hu
   obtain ⟨p, he⟩ := List.mem_iff_getElem?.1 hu
   obtain ⟨hlt, rfl⟩ := hnews p u he
   obtain ⟨x, d, hx, hd'⟩ := CP (t := t) (xs := ys) hlt
   exact (hr _ _ _ _ hx hd').one
  ·by_cases hf : t.flat = true
   ·refine ⟨vs, fun _ _ _ => False, fun i x j d hx hd' => ⟨hget i j (zC.1 hx).1 (by have := (zC.1 hd').1; rwa [Ty.aQ] at this), Di (qx hf hd') (hr _ _ _ _ hx hd')⟩, fun _ _ _ hh => hh.elim, fun _ _ _ _ _ hh => hh.elim⟩
   ·have hff : t.flat = false := by simpa using hf
    rw [if_neg hf] at hdp
    cases dp with
    | false =>
     exact ⟨vs, fun _ _ _ => False, fun i x j d hx hd' => ⟨hget i j (zC.1 hx).1 (by have := (zC.1 hd').1; rwa [Ty.aQ] at this), .ro _ _ _ rfl ((hr _ _ _ _ hx hd').move fun x o hs => ⟨hS x o hs, rfl⟩)⟩, fun _ _ _ hh => hh.elim, fun _ _ _ _ _ hh => hh.elim⟩
    | true =>
     cases c with
     | undef => cases hd
     | d x =>
      simp only [cD, Rd.val, zD] at hd
      subst hd
      simp [y9, Rd.val] at hdp
     | nil =>
      have : Value.slice (some ⟨b, off, none⟩) ys.length cap = .slice none 0 0 := hc
      cases this
     | ptr b' off' => cases hd
     | own k j =>
      simp only [y9, Rd.val] at hdp
      simp only [cD, Rd.val] at hd
      have hcore : ∀ {m' : Bool}, (aU (S.aC k) j).pO = .own t ys true m' -> ∃ (vs2 : Nat -> Nat -> Value) (fps : Nat -> Nat -> Nat -> Prop), (∀ (i : Nat) (x : t.den) (j' : Nat) (d : D), ys[i]? = some x -> (t.cells x)[j']? = some d ->
        ((List.range (ys.length * t.size)).map fun p => vs (p / t.size) (p % t.size))[i * t.size + j']? = some (vs2 i j') /\ Ow w S' true d (vs2 i j') (fps i j')) /\ (∀ i j' c, fps i j' c -> t.flat = false /\ rowsOf G S (C.own k j) c) /\ ∀ i j' i' j'' c, fps i j' c -> fps i' j'' c -> i = i' /\ j' = j'' := by
       intro m' hown
       have hO := h.Zc hown
       rcases hO with ⟨he, _⟩ | ⟨b', cap', arr, e, vs', fps', hv', hb', hcap', _, _, _, hc', hr', hf', hdis', _⟩
       ·rw [<- hc.2.1] at he; cases he
       ·rw [<- hc.2.1] at hv'
        injection hv' with e1 e2 e3
        injection e1 with e1
        injection e1 with e1 e4 _
        subst e1; subst e4
        refine ⟨vs, fun i j c => fps' i j c, fun i x j' d hx hd' => ?_, fun i j' c hh => ⟨hff, k, j, rfl, (hf' i j' c hh).1, _, _, _, _, hown⟩, hdis'⟩
        have hj : j' < t.size := by
         have := (zC.1 hd').1
         rwa [Ty.aQ] at this
        refine ⟨hget i j' (zC.1 hx).1 hj, ?_⟩
        have ee : vs i j' = vs' i j' := by
         have e5 := (hcc i x j' d hx hd').1
         rw [Nat.zero_add, cell_of_row w _ _ _ _ _ hb', hc' i x j' d hx hd'] at e5
         exact (Option.some.inj e5).symm
        rw [ee]
        exact (hr' i x j' d hx hd').move (fun x o hs => ⟨hS x o (.inl hs), rfl⟩) fun _ _ => rfl
      split at hdp
      ·rename_i t' xs' deep' m' hown
       simp only [Rd.val, zD] at hdp
       subst hdp
       rw [hown] at hd
       simp only [Rd.val, zD] at hd
       cases hd
       exact hcore (m' := m') (by rw [hown]; rfl)
      ·rename_i t' xs' hown
       rw [hown] at hd
       simp only [Rd.val, zD] at hd
       cases hd
       exact hcore (m' := true) (by rw [hown]; rfl)
      ·simp [Rd.val] at hdp
end ops
end Go.Abs
