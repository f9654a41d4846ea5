/- The operations, one by one: binary and unary operators, length, fields, literals of structs, slices of slices. -/
import Derived.Test.YtiedhibpaooldaaSound5b
set_option linter.unusedSimpArgs false
set_option linter.unusedVariables false
namespace Go.Abs
open Go.RowKit

section ops
variable {P : Program} {w0 : Bs} {G : Gh} {S : St} {a : Act} {w : World} {o : Oper} {K : Act → World → Prop} {Q : Exit → Act → World → Prop}

theorem eqGuard_run {op : BinOp} {T : TypeId} {x y : Operand} {d : D} {u v : Value} (hu : Rep w G.S d u) : (eqGuard op T x y u v).run P w = .ok () w := by
  unfold eqGuard
  cases hu <;> (split <;> rfl)

theorem CsRep.repL {ds : List D} {vs : List Value} (h : CsRep G w (ds.map .d) vs) : RepL w G.S ds vs := by
  obtain ⟨hl, hg⟩ := h.get
  exact ⟨by simpa using hl, fun i d v hd hv => hg i (.d d) v (by simp [hd]) hv⟩

theorem op_binOp (h : Inv w0 G S a w) {bo : BinOp} {T T' : TypeId} {x y : Operand} (ho : o.op = .binOp bo T x y T') {E : Env} (hT : E.tt.ok P = true) {ws : List W} (hv : (eff E o).val S = some ws)
    (hK : ∀ a' w' G', Inv w0 G' (S.puts ws) a' w' → K a' w') : o.wp P a w K Q := by
  unfold eff at hv
  rw [ho] at hv
  simp only [Rd.val_bind, Option.bind_eq_some_iff] at hv
  obtain ⟨av, h1, av', h3, hv⟩ := hv
  have hx := evalO_rep h h1
  have hy := evalO_rep h h3
  split at hv
  · rename_i cs cs'
    split at hv
    · cases hv
    rename_i ks hks
    obtain ⟨hk, hg0, fs, hu⟩ := TT.eqs_ok hT hks
    split at hv
    case h_2 => cases hv
    rename_i ds ds' hds hds'
    obtain ⟨rfl, k1⟩ := csKd_some hds
    obtain ⟨rfl, k2⟩ := csKd_some hds'
    obtain ⟨vs, hxv, hcx⟩ := hx
    obtain ⟨us, hyv, hcy⟩ := hy
    have hr := eqIn_run (P := P) (w := w) 9 9991 T ks ds ds' vs us hk k1 k2 hcx.repL hcy.repL
    simp only [partV, hu] at hr
    have hg : ∀ op, (eqGuard op T x y (.agg vs.toArray) (.agg us.toArray)).run P w = .ok () w := fun op => run_eqGuard_agg w op T x y _ _ hg0
    split at hv
    · simp only [Rd.val, Option.some.injEq] at hv
      subst hv
      refine wp_of_run (v := .bool (eqDs ds ds')) (w' := w) ?_ (hK _ _ _ (h.dst (Rep.bool _)))
      unfold execOp
      simp only [ho, hxv, hyv, Sem.run_bind, hg, Result.andThen_ok, run_eql_struct, hr, Sem.run_pure]
    · simp only [Rd.val, Option.some.injEq] at hv
      subst hv
      refine wp_of_run (v := .bool (!(eqDs ds ds'))) (w' := w) ?_ (hK _ _ _ (h.dst (Rep.bool _)))
      unfold execOp
      simp only [ho, hxv, hyv, Sem.run_bind, hg, Result.andThen_ok, run_neq_struct, hr, Sem.run_pure]
    · cases hv
  · simp only [Rd.val_bind, Option.bind_eq_some_iff] at hv
    obtain ⟨dx, h2, dy, h4, hv⟩ := hv
    have hx := avD_rep h2 hx
    have hy := avD_rep h4 hy
    have hg : (eqGuard bo T x y (a.eval x) (a.eval y)).run P w = .ok () w := eqGuard_run hx
    have fin : ∀ {z : D} {r : Value}, (binOp bo T (a.eval x) (a.eval y)).run P w = .ok r w → Rep w G.S z r → ws = dstT o (.v (.one (.d z))) → o.wp P a w K Q := by
      intro z r hr hrep hws
      subst hws
      refine wp_of_run (v := r) (w' := w) ?_ (hK _ _ _ (h.dst (av := .v (.one (.d z))) hrep))
      unfold execOp
      simp only [ho, Sem.run_bind, hg, Result.andThen_ok, hr, Sem.run_pure]
    generalize hxv : a.eval x = xv at hx fin
    generalize hyv : a.eval y = yv at hy fin
    split at hv
    · split at hv
      case isFalse => cases hv
      rename_i hkk
      subst hkk
      simp only [Rd.val, Option.bind_eq_some_iff, Option.some.injEq] at hv
      obtain ⟨z, hz, rfl⟩ := hv
      cases hx; cases hy
      unfold quoI at hz
      split at hz
      · cases hz
      · rename_i hq
        cases hz
        exact fin (by simp [binOp, Op.intDiv, hq]) (Rep.int _ _) rfl
    · split at hv
      case isFalse => cases hv
      rename_i hkk
      subst hkk
      simp only [Rd.val, Option.bind_eq_some_iff, Option.some.injEq] at hv
      obtain ⟨z, hz, rfl⟩ := hv
      cases hx; cases hy
      unfold remI at hz
      split at hz
      · cases hz
      · rename_i hq
        cases hz
        exact fin (by simp [binOp, Op.intDiv, hq]) (Rep.int _ _) rfl
    · simp only [Rd.val, Option.bind_eq_some_iff, Option.some.injEq] at hv
      obtain ⟨z, hz, rfl⟩ := hv
      cases hx; cases hy
      unfold shlI at hz
      split at hz
      · cases hz
      · rename_i hq
        cases hz
        exact fin (by simp [binOp, Op.shift, hq]) (Rep.int _ _) rfl
    · simp only [Rd.val, Option.bind_eq_some_iff, Option.some.injEq] at hv
      obtain ⟨z, hz, rfl⟩ := hv
      cases hx; cases hy
      unfold shrI at hz
      split at hz
      · cases hz
      · rename_i hq
        cases hz
        exact fin (by simp [binOp, Op.shift, hq]) (Rep.int _ _) rfl
    · simp only [Rd.val, Option.bind_eq_some_iff, Option.some.injEq] at hv
      obtain ⟨_, hgd, rfl⟩ := hv
      rename_i p q _
      have hle : List.length p + List.length q ≤ 34359738368 := by
        unfold gd at hgd
        split at hgd
        · rename_i hg'; exact hg'
        · cases hgd
      obtain ⟨r, hr, hrep⟩ := strcat_run (P := P) hx hy hle T
      exact fin hr hrep rfl
    · split at hv
      · rename_i hb
        simp only [Rd.val, Option.bind_eq_some_iff, Option.some.injEq] at hv
        obtain ⟨z, hz, rfl⟩ := hv
        obtain ⟨r, hr, hrep⟩ := binD_run (P := P) hz hx hy T (fun p q e _ => TT.bool_ok hT (hb (by rw [e]; rfl)))
        exact fin hr hrep rfl
      · cases hv

theorem op_unOp (h : Inv w0 G S a w) {uo : UnOp} {T : TypeId} {x : Operand} (ho : o.op = .unOp uo T x) {E : Env} {ws : List W} (hv : (eff E o).val S = some ws)
    (hK : ∀ a' w' G', Inv w0 G' (S.puts ws) a' w' → K a' w') : o.wp P a w K Q := by
  unfold eff at hv
  rw [ho] at hv
  simp only [Rd.val_bind, Option.bind_eq_some_iff] at hv
  obtain ⟨av, h1, dx, h2, hv⟩ := hv
  have hx := avD_rep h2 (evalO_rep h h1)
  generalize hxv : a.eval x = xv at hx
  split at hv
  · rename_i b
    split at hv
    · simp only [Rd.val, Option.some.injEq] at hv
      subst hv
      cases hx
      refine wp_of_run (v := .bool (!b)) (w' := w) ?_ (hK _ _ _ (h.dst (Rep.bool _)))
      unfold execOp
      simp [ho, hxv, Op.unary]
    · cases hv
  · rename_i k n
    split at hv
    · simp only [Rd.val, Option.some.injEq] at hv
      subst hv
      cases hx
      refine wp_of_run (v := .int k (k.wrap (0 - n))) (w' := w) ?_ (hK _ _ _ (h.dst (Rep.int _ _)))
      unfold execOp
      simp [ho, hxv, Op.unary, Op.intArith]
    · cases hv
  · cases hv

theorem op_nilCheck (h : Inv w0 G S a w) {x : Operand} (ho : o.op = .nilCheck x) {E : Env} {ws : List W} (hv : (eff E o).val S = some ws)
    (hK : ∀ a' w' G', Inv w0 G' (S.puts ws) a' w' → K a' w') : o.wp P a w K Q := by
  unfold eff at hv
  rw [ho] at hv
  simp only [Rd.val_bind, Option.bind_eq_some_iff] at hv
  obtain ⟨av, h1, hv⟩ := hv
  have hx := evalO_rep h h1
  split at hv
  · rename_i b off
    simp only [Rd.val, Option.some.injEq] at hv
    subst hv
    refine wp_of_run (v := a.eval x) (w' := w) ?_ (hK _ _ _ (h.dst hx))
    have : a.eval x = .pointer (some ⟨G.bk b, off, none⟩) := hx.2
    unfold execOp
    simp [ho, this]
  · cases hv

theorem run_call_builtin {c : Call} {b : Builtin} (ho : o.op = .call c) (hc : c.callee = .builtin b) {r : Value} {w' : World}
    (hr : (builtin b c.argTypes o.type (c.args.map fun | .const _ => true | _ => false) (c.args.map a.eval)).run P w = .ok (.value r) w') :
    (execOp a.eval o).run P w = .ok (.value r) w' := by
  unfold execOp
  simp only [ho, resolve, hc, Sem.run_bind, Sem.run_pure, Result.andThen_ok, invoke]
  exact hr

theorem toList_one {α : Type} {xs : Array α} {x : α} (h : xs.toList = [x]) : xs = #[x] := by
  cases xs; simp at h; rw [h]
theorem toList_two {α : Type} {xs : Array α} {x y : α} (h : xs.toList = [x, y]) : xs = #[x, y] := by
  cases xs; simp at h; rw [h]

theorem op_len (h : Inv w0 G S a w) {c : Call} (ho : o.op = .call c) (hcc : c.callee = .builtin .len) {E : Env} (hT : E.tt.ok P = true) {ws : List W} (hv : (eff E o).val S = some ws)
    (hK : ∀ a' w' G', Inv w0 G' (S.puts ws) a' w' → K a' w') : o.wp P a w K Q := by
  unfold eff at hv
  rw [ho] at hv
  simp only [hcc] at hv
  split at hv
  · rename_i x T hx hT'
    have hargs := toList_one hx
    have htys := toList_one hT'
    simp only [Rd.val_bind, Option.bind_eq_some_iff] at hv
    obtain ⟨av, h1, hv⟩ := hv
    have hr := evalO_rep h h1
    have str : ∀ s : ByteArray, a.eval x = .string s → E.tt.strs.contains T = true → (execOp a.eval o).run P w = .ok (.value (.int .i64 s.size)) w := by
      intro s hs hc
      refine run_call_builtin ho hcc ?_
      simp [builtin, hargs, htys, hs, Builtin.len_, run_underlying (TT.str_ok hT hc), goInt]
    have sli : ∀ ad n cap, a.eval x = .slice ad n cap → (lk E.tt.elem T).isSome = true → (execOp a.eval o).run P w = .ok (.value (.int .i64 n)) w := by
      intro ad n cap hs hc
      obtain ⟨t, ht⟩ := Option.isSome_iff_exists.1 hc
      obtain ⟨e, _, _, hu, _⟩ := TT.elem_ok hT ht
      refine run_call_builtin ho hcc ?_
      simp [builtin, hargs, htys, hs, Builtin.len_, run_underlying hu, goInt]
    have rep : ∀ (t : Ty) (xs : List t.den) v, Rep w G.S (.list t xs) v → a.eval x = v → (lk E.tt.elem T).isSome = true → (execOp a.eval o).run P w = .ok (.value (.int .i64 xs.length)) w := by
      intro t xs v hrep hv hc
      cases hrep with
      | nil => exact sli _ _ _ hv hc
      | emp => exact sli _ _ _ hv hc
      | list _ _ b off cap vs hcap _ _ => exact sli _ _ _ hv hc
    split at hv
    · rename_i s
      split at hv
      · rename_i hs
        simp only [Rd.val, Option.some.injEq] at hv
        subst hv
        generalize hxv : a.eval x = xv at hr
        cases hr with
        | str v => exact wp_of_run (str v hxv hs) (hK _ _ _ (h.dst (by rw [bytes_len]; exact Rep.int _ _)))
      · cases hv
    · rename_i t xs
      split at hv
      · rename_i hs
        simp only [Rd.val, Option.some.injEq] at hv
        subst hv
        exact wp_of_run (rep t xs _ hr rfl hs) (hK _ _ _ (h.dst (Rep.int _ _)))
      · cases hv
    · split at hv
      · rename_i hs
        simp only [Rd.val, Option.some.injEq] at hv
        subst hv
        exact wp_of_run (sli _ _ _ hr hs) (hK _ _ _ (h.dst (Rep.int _ _)))
      · cases hv
    · rename_i k j
      split at hv
      · rename_i hs
        simp only [Rd.val] at hv
        split at hv
        · rename_i t xs deep m hown
          simp only [Rd.val, Option.some.injEq] at hv
          subst hv
          have hO := h.owns k j
          rw [hown] at hO
          refine wp_of_run ?_ (hK _ _ _ (h.dst (Rep.int _ _)))
          rcases hO with ⟨e1, e2⟩ | ⟨b, cap, arr, e', vs, fps, e1, _⟩
          · subst e2; exact sli _ _ _ (hr.2.1.trans e1) hs
          · exact sli _ _ _ (hr.2.1.trans e1) hs
        · rename_i t xs hown
          simp only [Rd.val, Option.some.injEq] at hv
          subst hv
          exact wp_of_run (rep t xs _ (h.ro_rep hown) hr.2.1 hs) (hK _ _ _ (h.dst (Rep.int _ _)))
        · cases hv
      · cases hv
    · cases hv
  · cases hv
end ops
end Go.Abs
