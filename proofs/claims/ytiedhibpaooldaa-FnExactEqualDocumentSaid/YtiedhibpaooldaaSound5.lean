/- The operations, one by one: indexes, arithmetic, strings, fields. -/
import Derived.Test.YtiedhibpaooldaaSound4
namespace Go.Abs
open Go.RowKit

theorem idx_some {α : Type} {xs : List α} {n : Int} {x : α} (h : idx xs n = some x) : 0 ≤ n ∧ n < xs.length ∧ xs[n.toNat]? = some x := by
  unfold idx at h
  split at h
  · rename_i h0
    have := (List.getElem?_eq_some_iff.1 h).1
    exact ⟨h0, by omega, h⟩
  · cases h

theorem bytes_len (b : ByteArray) : b.data.toList.length = b.size := by rw [Array.length_toList]; rfl
theorem bytes_toList (b : ByteArray) : b.toList = b.data.toList := by
  have key : ∀ (n i : Nat) (r : List UInt8), b.size - i = n → ByteArray.toList.loop b i r = r.reverse ++ b.data.toList.drop i := by
    intro n
    induction n with
    | zero =>
      intro i r hn
      unfold ByteArray.toList.loop
      have hi : ¬ i < b.size := by omega
      rw [if_neg hi]
      have : b.data.toList.drop i = [] := by
        rw [List.drop_eq_nil_iff]
        have := bytes_len b
        omega
      rw [this]; simp
    | succ n ih =>
      intro i r hn
      unfold ByteArray.toList.loop
      have hi : i < b.size := by omega
      rw [if_pos hi, ih (i + 1) _ (by omega)]
      have hi' : i < b.data.toList.length := by rw [bytes_len]; exact hi
      rw [List.drop_eq_getElem_cons hi']
      have : b.get! i = b.data.toList[i] := by
        have h2 : i < b.data.size := hi
        simp only [ByteArray.get!, Array.getElem_toList]
        exact getElem!_pos b.data i h2
      rw [this]; simp
  have := key _ 0 [] rfl
  simpa [ByteArray.toList] using this

section ops
variable {P : Program} {w0 : Bs} {G : Gh} {S : St} {a : Act} {w : World} {o : Oper} {K : Act → World → Prop} {Q : Exit → Act → World → Prop}

theorem run_indexAt (T e : TypeId) (i : TypeInfo) (hu : P.underlying T = some (.slice e)) (hi : P.info? e = some i) (g off len cap : Nat) (k : IntKind) (n : Int) (h0 : 0 ≤ n) (h1 : n < len) :
    (Instr.indexAt T (.slice (some ⟨g, off, none⟩) len cap) (.int k n)).run P w = .ok (.pointer (some ⟨g, off + n.toNat * i.size, none⟩)) w := by
  simp [Instr.indexAt, asIntOf, run_underlying hu, h0, h1, sizeOf, typeInfo, hi, addr_add]

theorem op_indexAddr (h : Inv w0 G S a w) {T : TypeId} {x i : Operand} (ho : o.op = .indexAddr T x i) {E : Env} (hT : E.tt.ok P = true) {ws : List W} (hv : (eff E o).val S = some ws)
    (hK : ∀ a' w' G', Inv w0 G' (S.puts ws) a' w' → K a' w') : o.wp P a w K Q := by
  unfold eff at hv
  rw [ho] at hv
  simp only at hv
  split at hv
  · cases hv
  rename_i t ht
  obtain ⟨e, inf, z, hu, hi, hsz, _⟩ := TT.elem_ok hT ht
  simp only [Rd.val_bind, Option.bind_eq_some_iff] at hv
  obtain ⟨av, h1, av', h2, n, h3, hv⟩ := hv
  have hr := evalO_rep h h1
  obtain ⟨kk, hn⟩ := avInt_rep h3 (evalO_rep h h2)
  have run : ∀ g off len cap, a.eval x = .slice (some ⟨g, off, none⟩) len cap → 0 ≤ n → n < len → (execOp a.eval o).run P w = .ok (.value (.pointer (some ⟨g, off + n.toNat * t.size, none⟩))) w := by
    intro g off len cap hx h0 hl
    have := run_indexAt (w := w) T e inf hu hi g off len cap kk n h0 hl
    rw [hsz] at this
    unfold execOp
    simp [ho, hx, hn, this]
  -- an element of a stable list
  have stable : ∀ (xs : List t.den) (y : t.den) (v : Value), Rep w G.S (.list t xs) v → a.eval x = v → idx xs n = some y → ∃ v', (execOp a.eval o).run P w = .ok (.value v') w ∧ AVRep G w (.elt t y 0) v' := by
    intro xs y v hrep hx hy
    obtain ⟨h0, hl, hxy⟩ := idx_some hy
    cases hrep with
    | nil => simp at hl; omega
    | emp => simp at hl; omega
    | list _ _ b off cap vs hcap hc hr =>
      refine ⟨_, run b off _ cap hx h0 hl, b, off + n.toNat * t.size, rfl, fun j => vs n.toNat j, fun j d hd => ?_⟩
      have := hc _ _ _ _ hxy hd
      rw [Nat.add_assoc]
      exact ⟨this.1, this.2, hr _ _ _ _ hxy hd⟩
  split at hv
  · rename_i t' xs
    split at hv
    · rename_i htt
      subst htt
      simp only [Rd.val, Option.bind_eq_some_iff, Option.some.injEq] at hv
      obtain ⟨y, hy, rfl⟩ := hv
      obtain ⟨v', hrun, hrep⟩ := stable xs y _ hr rfl hy
      exact wp_of_run hrun (hK _ _ _ (h.dst hrep))
    · cases hv
  · rename_i k j
    simp only [Rd.val] at hv
    split at hv
    · rename_i t' xs deep m hown
      split at hv
      · rename_i htt
        subst htt
        simp only [Rd.val, Option.bind_eq_some_iff, Option.some.injEq] at hv
        obtain ⟨y, hy, rfl⟩ := hv
        obtain ⟨h0, hl, hxy⟩ := idx_some hy
        have hO := h.owns k j
        rw [hown] at hO
        rcases hO with ⟨_, he⟩ | ⟨b, cap, arr, e', vs, fps, hv', _⟩
        · subst he; simp at hl; omega
        refine wp_of_run (run b 0 xs.length cap (by rw [hr.2.1]; exact hv') h0 hl) (hK _ _ _ (h.dst (av := .oelt k j n.toNat t'.size 0) ⟨hr.1, b, xs.length, cap, hv', ?_⟩))
        simp
      · cases hv
    · rename_i t' xs hown
      split at hv
      · rename_i htt
        subst htt
        simp only [Rd.val, Option.bind_eq_some_iff, Option.some.injEq] at hv
        obtain ⟨y, hy, rfl⟩ := hv
        obtain ⟨v', hrun, hrep⟩ := stable xs y _ (h.ro_rep hown) hr.2.1 hy
        exact wp_of_run hrun (hK _ _ _ (h.dst hrep))
      · cases hv
    · cases hv
  · cases hv

theorem op_index (h : Inv w0 G S a w) {T : TypeId} {x i : Operand} (ho : o.op = .index T x i) {E : Env} (hT : E.tt.ok P = true) {ws : List W} (hv : (eff E o).val S = some ws)
    (hK : ∀ a' w' G', Inv w0 G' (S.puts ws) a' w' → K a' w') : o.wp P a w K Q := by
  unfold eff at hv
  rw [ho] at hv
  simp only at hv
  split at hv
  · rename_i hs
    have hu := TT.str_ok hT hs
    simp only [Rd.val_bind, Option.bind_eq_some_iff] at hv
    obtain ⟨av, h1, d, h2, hv⟩ := hv
    have hr := avD_rep h2 (evalO_rep h h1)
    split at hv
    · rename_i s
      simp only [Rd.val_bind, Option.bind_eq_some_iff, Rd.val, Option.some.injEq] at hv
      obtain ⟨av', h3, n, h4, c, h5, rfl⟩ := hv
      obtain ⟨kk, hn⟩ := avInt_rep h4 (evalO_rep h h3)
      obtain ⟨h0, hl, hx⟩ := idx_some h5
      generalize hxv : a.eval x = xv at hr
      cases hr with
      | str v =>
        refine wp_of_run (v := .int .u8 c.toNat) (w' := w) ?_ (hK _ _ _ (h.dst (Rep.int _ _)))
        have hc : v[n.toNat]? = some c := by
          have hl' : n.toNat < v.size := by
            have := bytes_len v
            omega
          rw [getElem?_pos v n.toNat hl']
          have : v.data.toList[n.toNat]? = some v[n.toNat] := by
            have h6 : n.toNat < v.data.size := hl'
            rw [Array.getElem?_toList, getElem?_pos v.data n.toNat h6]; rfl
          rw [hx] at this
          exact this.symm
        unfold execOp
        simp [ho, hxv, hn, Instr.index, asIntOf, run_underlying hu, h0, hc]
    · cases hv
  · cases hv

theorem VsRep.get {xs : List V} {us : List Value} (h : VsRep G w xs us) : xs.length = us.length ∧ ∀ (i : Nat) (x : V) (u : Value), xs[i]? = some x → us[i]? = some u → VRep G w x u := by
  induction xs generalizing us with
  | nil => cases us with
    | nil => exact ⟨rfl, fun i x u hx => by simp at hx⟩
    | cons u us => exact h.elim
  | cons x xs ih => cases us with
    | nil => exact h.elim
    | cons u us =>
      obtain ⟨hl, hg⟩ := ih h.2
      refine ⟨by simp [hl], fun i y v hy hv => ?_⟩
      cases i with
      | zero => simp at hy hv; subst hy; subst hv; exact h.1
      | succ i => simp at hy hv; exact hg i y v hy hv

theorem op_extract (h : Inv w0 G S a w) {x : Operand} {i : Nat} (ho : o.op = .extract x i) {E : Env} {ws : List W} (hv : (eff E o).val S = some ws)
    (hK : ∀ a' w' G', Inv w0 G' (S.puts ws) a' w' → K a' w') : o.wp P a w K Q := by
  unfold eff at hv
  rw [ho] at hv
  simp only [Rd.val_bind, Option.bind_eq_some_iff] at hv
  obtain ⟨av, h1, hv⟩ := hv
  have hr := evalO_rep h h1
  split at hv
  · rename_i vs
    simp only [Rd.val, Option.bind_eq_some_iff, Option.some.injEq] at hv
    obtain ⟨y, hy, rfl⟩ := hv
    obtain ⟨us, hx, hus⟩ := hr
    obtain ⟨hl, hg⟩ := hus.get
    have hi : i < us.length := by have := (List.getElem?_eq_some_iff.1 hy).1; omega
    refine wp_of_run (v := us[i]) (w' := w) ?_ (hK _ _ _ (h.dst (avOfV_rep (hg i y us[i] hy (by simp [hi])))))
    unfold execOp
    simp [ho, hx, Instr.extract, hi]
  · cases hv

theorem strcat_run {p q : Str} {u v : Value} (hx : Rep w G.S (.str p) u) (hy : Rep w G.S (.str q) v) (hg : p.length + q.length ≤ 34359738368) (T : TypeId) :
    ∃ r, (binOp .add T u v).run P w = .ok r w ∧ Rep w G.S (.str (p ++ q)) r := by
  generalize hdp : D.str p = dp at hx
  generalize hdq : D.str q = dq at hy
  cases hx <;> cases hdp
  cases hy <;> cases hdq
  rename_i s s'
  rw [bytes_len, bytes_len] at hg
  refine ⟨.string (s ++ s'), ?_, ?_⟩
  · have : ¬ (((s.size + s'.size : Nat) : Int) > IntKind.i64.max) := by
      have : IntKind.i64.max = 9223372036854775807 := by decide
      rw [this]; omega
    simp only [binOp, Op.stringOp]
    rw [if_neg this]
    rfl
  · have e : s.data.toList ++ s'.data.toList = (s ++ s').data.toList := by simp
    rw [e]
    exact .str _

theorem binD_run {op : BinOp} {x y z : D} {u v : Value} (hz : binD op x y = some z) (hx : Rep w G.S x u) (hy : Rep w G.S y v) (T : TypeId)
    (hb : ∀ p q, x = .bool p → y = .bool q → P.underlying T = some .bool) :
    ∃ r, (binOp op T u v).run P w = .ok r w ∧ Rep w G.S z r := by
  unfold binD at hz
  split at hz
  · rename_i k p k' q
    split at hz
    · rename_i hk
      subst hk
      cases hx; cases hy
      unfold binI at hz
      split at hz <;> cases hz <;> refine ⟨_, ?_, by first | exact Rep.int _ _ | exact Rep.bool _⟩ <;> simp [binOp, Op.intArith, Op.intCmp, Op.intBits] <;> rfl
    · cases hz
  · rename_i p q
    cases hx with
    | str s =>
    cases hy with
    | str s' =>
      unfold binS at hz
      split at hz
      all_goals
        first
          | (cases hz; refine ⟨_, ?_, Rep.bool _⟩; simp [binOp, Op.stringOp, bytes_toList]; done)
          | (cases hz; refine ⟨_, ?_, Rep.bool _⟩; simp only [binOp, Op.stringOp, bytes_toList]; rfl)
          | cases hz
  · rename_i p q
    cases hx; cases hy
    have hu := hb p q rfl rfl
    unfold binB at hz
    split at hz
    · cases hz; exact ⟨_, run_eql_bool w T p q hu, Rep.bool _⟩
    · cases hz; exact ⟨_, run_neq_bool w T p q hu, Rep.bool _⟩
    · cases hz
  · cases hz
end ops
end Go.Abs
