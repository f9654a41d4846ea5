/- The operations, one by one: slots, boxes, loads, addresses. -/
import Derived.Test.YtiedhibpaooldaaSound3
namespace Go.Abs
open Go.RowKit

section ops
variable {P : Program} {w0 : Bs} {G : Gh} {S : St} {a : Act} {w : World} {o : Oper} {K : Act → World → Prop} {Q : Exit → Act → World → Prop}

theorem wp_of_run {v : Value} {w' : World} (hrun : (execOp a.eval o).run P w = .ok (.value v) w') (h : K (a.put o.dst v) w') : o.wp P a w K Q := by
  unfold Oper.wp; rw [hrun]; exact h
theorem wp_of_skip {w' : World} (hrun : (execOp a.eval o).run P w = .ok .skip w') (h : K (a.put o.dst undef) w') : o.wp P a w K Q := by
  unfold Oper.wp; rw [hrun]; exact h
theorem Inv.dst (h : Inv w0 G S a w) {av : AV} {v : Value} (hv : AVRep G w av v) : Inv w0 G (S.puts (dstT o av)) (a.put o.dst v) w := by
  unfold dstT
  cases o.dst with
  | none => exact h
  | some d => exact h.setT d hv
theorem avOfC_rep {c : C} {v : Value} (h : CRep G w c v) : AVRep G w (avOfC c) v := by
  cases c <;> first | trivial | exact h
theorem avOfV_rep {x : V} {v : Value} (h : VRep G w x v) : AVRep G w (avOfV x) v := by
  cases x with
  | one c => exact avOfC_rep h
  | agg cs => exact h
theorem undef_rep : AVRep G w (.tup []) undef := ⟨[], rfl, trivial⟩
theorem cells_of_one {v : Value} (h : v.oneCell' = true) : v.cells = #[v] := by
  cases v <;> first | rfl | (simp [Value.oneCell'] at h)
theorem VRep.vcells {x : V} {v : Value} (h : VRep G w x v) : ∃ vs : List Value, v.cells = vs.toArray ∧ CsRep G w x.cells vs := by
  cases x with
  | one c => exact ⟨[v], cells_of_one (CRep.one h), ⟨h, trivial⟩⟩
  | agg cs => obtain ⟨vs, rfl, hc⟩ := h; exact ⟨vs, rfl, hc⟩
theorem CsRep.seg {cs : List C} {vs : List Value} (h : CsRep G w cs vs) (off n : Nat) : CsRep G w (seg cs off n) (Abs.seg vs off n) := by
  obtain ⟨hl, hg⟩ := h.get
  refine CsRep.mk (by simp [Abs.seg, hl]) fun i c v hc hv => ?_
  simp only [Abs.seg, List.getElem?_take, List.getElem?_drop] at hc hv
  split at hc
  · rename_i hi; rw [if_pos hi] at hv; exact hg _ c v hc hv
  · cases hc
theorem CsRep.setSeg {cs cs' : List C} {vs vs' : List Value} (h : CsRep G w cs vs) (h' : CsRep G w cs' vs') (off : Nat) : CsRep G w (setSeg cs off cs') (Abs.setSeg vs off vs') := by
  obtain ⟨hl, hg⟩ := h.get
  obtain ⟨hl', hg'⟩ := h'.get
  refine CsRep.mk (by simp [Abs.setSeg, hl, hl']) fun i c v hc hv => ?_
  simp only [Abs.setSeg, List.getElem?_append, List.getElem?_take, List.getElem?_drop, List.length_append, List.length_take, hl, hl'] at hc hv
  split at hc
  · rename_i h1
    rw [if_pos h1] at hv
    split at hc
    · rename_i h2
      rw [if_pos h2] at hv
      split at hc
      · rename_i h3; rw [if_pos h3] at hv; exact hg _ c v hc hv
      · cases hc
    · rename_i h2; rw [if_neg h2] at hv; exact hg' _ c v hc hv
  · rename_i h1; rw [if_neg h1] at hv; exact hg _ c v hc hv
theorem CsRep.length {cs : List C} {vs : List Value} (h : CsRep G w cs vs) : cs.length = vs.length := h.get.1
theorem mkV_rep {agg : Bool} {cs : List C} {x : V} {vs : List Value} (hx : mkV agg cs = some x) (hc : CsRep G w cs vs) :
    (agg = true → VRep G w x (.agg vs.toArray)) ∧ (agg = false → ∃ v, vs = [v] ∧ VRep G w x v) := by
  unfold mkV at hx
  split at hx
  · cases hx; exact ⟨fun _ => ⟨vs, rfl, hc⟩, by simp⟩
  · cases hx
    match vs, hc with
    | [v], hc => exact ⟨by simp, fun _ => ⟨v, rfl, hc.1⟩⟩
  · cases hx

theorem addr_add (g o j : Nat) : (⟨g, o, none⟩ : Addr).add j = ⟨g, o + j, none⟩ := by unfold Addr.add; split <;> simp_all

theorem run_loadVar_agg (T : TypeId) (g off : Nat) (d : TypeDesc) (i : TypeInfo) (hu : P.underlying T = some d) (hi : P.info? T = some i) (hd : aggD d = true) (ls : List Value) (hl : ls.length = i.size)
    (hc : ∀ j v, ls[j]? = some v → w.cell? ⟨g, off + j, none⟩ = some v) : (loadVar T ⟨g, off, none⟩).run P w = .ok (.agg ls.toArray) w := by
  have h1 : (loadCells ⟨g, off, none⟩ ls.length).run P w = .ok ls.toArray w := run_loadCells_list (P := P) w ⟨g, off, none⟩ ls fun j v hv => by rw [addr_add]; exact hc j v hv
  have hagg : (isAgg T).run P w = .ok true w := by
    unfold isAgg
    rw [Sem.run_bind, run_underlying hu w]
    cases d <;> simp_all [aggD]
  rw [hl] at h1
  simp [loadVar, Sem.run_bind, hagg, sizeOf, typeInfo, hi, h1]
theorem run_loadVar_one (T : TypeId) (g off : Nat) (d : TypeDesc) (hu : P.underlying T = some d) (hd : aggD d = false) (v : Value)
    (hc : w.cell? ⟨g, off, none⟩ = some v) : (loadVar T ⟨g, off, none⟩).run P w = .ok v w := by
  have hagg : (isAgg T).run P w = .ok false w := by
    unfold isAgg
    rw [Sem.run_bind, run_underlying hu w]
    cases d <;> simp_all [aggD]
  simp [loadVar, Sem.run_bind, hagg, hc]

/-- A load whose cells are known. -/
theorem op_load_cells {T : TT} (hT : T.ok P = true) (h : Inv w0 G S a w) {t : TypeId} {p : Operand} (ho : o.op = .load t p) {agg : Bool} {n : Nat} (hs : lk T.shape t = some (agg, n))
    {g off : Nat} (hp : a.eval p = .pointer (some ⟨g, off, none⟩)) {cs : List C} {vs : List Value} (hc : CsRep G w cs vs) (hn : cs.length = n)
    (hcell : ∀ j v, vs[j]? = some v → w.cell? ⟨g, off + j, none⟩ = some v) {x : V} (hx : mkV agg cs = some x)
    (hK : ∀ a' w' G', Inv w0 G' (S.puts (dstT o (avOfV x))) a' w' → K a' w') : o.wp P a w K Q := by
  obtain ⟨d, i, hu, hi, hsz, hd⟩ := TT.shape_ok hT hs
  obtain ⟨h1, h2⟩ := mkV_rep hx hc
  have hl := hc.length
  cases agg with
  | true =>
    refine wp_of_run (v := .agg vs.toArray) (w' := w) ?_ (hK _ _ _ (h.dst (avOfV_rep (h1 rfl))))
    have := run_loadVar_agg (w := w) t g off d i hu hi hd vs (by omega) hcell
    unfold execOp
    simp only [ho, hp, Instr.loadAt, Instr.sureAddr, Sem.run_bind, Sem.run_pure, Result.andThen_ok, this]
  | false =>
    obtain ⟨v, rfl, hv⟩ := h2 rfl
    refine wp_of_run (v := v) (w' := w) ?_ (hK _ _ _ (h.dst (avOfV_rep hv)))
    have := run_loadVar_one (w := w) t g off d hu hd v (hcell 0 v rfl)
    unfold execOp
    simp only [ho, hp, Instr.loadAt, Instr.sureAddr, Sem.run_bind, Sem.run_pure, Result.andThen_ok, this]

/-- A new box. -/
theorem op_box (h : Inv w0 G S a w) {d : Nat} (hd : o.dst = some d) {cs : List C} {ws : List W} (hv : (newBox d cs).val S = some ws) {vs : List Value} {e : TypeId} (hc : CsRep G w cs vs)
    (hrun : (execOp a.eval o).run P w = .ok (.value (.pointer (some ⟨w.heap.size, 0, none⟩))) (w.alloc (.cells vs.toArray e)))
    (hK : ∀ a' w' G', Inv w0 G' (S.puts ws) a' w' → K a' w') : o.wp P a w K Q := by
  simp only [newBox, Rd.val] at hv
  split at hv
  · rename_i hb
    simp only [Rd.val, Option.some.injEq] at hv
    subst hv
    have hbel : Below w.heap.size w (w.alloc (.cells vs.toArray e)) := (Below.refl _ _).alloc (Nat.le_refl _) _
    have h1 := h.grow hbel
    have hm : Mv G G w (w.alloc (.cells vs.toArray e)) := ⟨fun b o hs => ⟨hs, hbel.cell (p := ⟨b, o, none⟩) (h.sok b o hs).1⟩, fun k hk => ⟨hk, fun _ => rfl⟩, fun i hi => ⟨hi, rfl⟩⟩
    obtain ⟨G', h2⟩ := h1.newBox d w.heap.size hb h.below.size
      (by cases hx : G.ow w.heap.size with
          | none => rfl
          | some y => exact absurd (h.olt _ _ hx).2 (Nat.lt_irrefl _))
      (fun o hs => absurd (h.sok _ o hs).1 (Nat.lt_irrefl _)) (heap_alloc_new w _) (hc.move hm)
    refine wp_of_run hrun (hK _ _ G' ?_)
    rw [hd]
    exact h2
  · cases hv

theorem op_move (h : Inv w0 G S a w) {x : Operand} (ho : o.op = .move x ∨ o.op = .assign x) {E : Env} {ws : List W} (hv : (eff E o).val S = some ws)
    (hK : ∀ a' w' G', Inv w0 G' (S.puts ws) a' w' → K a' w') : o.wp P a w K Q := by
  have hv' : ((evalO x).bind fun a => .ret (dstT o a)).val S = some ws := by
    rcases ho with ho | ho <;> (unfold eff at hv; rw [ho] at hv; exact hv)
  simp only [Rd.val_bind, Option.bind_eq_some_iff, Rd.val, Option.some.injEq] at hv'
  obtain ⟨av, h1, rfl⟩ := hv'
  refine wp_of_run (v := a.eval x) (w' := w) ?_ (hK _ _ _ (h.dst (evalO_rep h h1)))
  rcases ho with ho | ho <;> (unfold execOp; simp only [ho]; rfl)

theorem op_pick (h : Inv w0 G S a w) {c x y : Operand} (ho : o.op = .pick c x y) {E : Env} {ws : List W} (hv : (eff E o).val S = some ws)
    (hK : ∀ a' w' G', Inv w0 G' (S.puts ws) a' w' → K a' w') : o.wp P a w K Q := by
  unfold eff at hv
  rw [ho] at hv
  simp only [Rd.val_bind, Option.bind_eq_some_iff] at hv
  obtain ⟨av, h1, d, h2, hv⟩ := hv
  have hr := avD_rep h2 (evalO_rep h h1)
  split at hv
  · simp only [Rd.val_bind, Option.bind_eq_some_iff, Rd.val, Option.some.injEq] at hv
    obtain ⟨av', h3, rfl⟩ := hv
    generalize hcv : a.eval c = cv at hr
    cases hr
    refine wp_of_run (v := a.eval x) (w' := w) ?_ (hK _ _ _ (h.dst (evalO_rep h h3)))
    unfold execOp; simp [ho, hcv, asBool]
  · simp only [Rd.val_bind, Option.bind_eq_some_iff, Rd.val, Option.some.injEq] at hv
    obtain ⟨av', h3, rfl⟩ := hv
    generalize hcv : a.eval c = cv at hr
    cases hr
    refine wp_of_run (v := a.eval y) (w' := w) ?_ (hK _ _ _ (h.dst (evalO_rep h h3)))
    unfold execOp; simp [ho, hcv, asBool]
  · cases hv

theorem op_alloc (h : Inv w0 G S a w) {e : TypeId} (ho : o.op = .alloc e) {E : Env} (hT : E.tt.ok P = true) {ws : List W} (hv : (eff E o).val S = some ws)
    (hK : ∀ a' w' G', Inv w0 G' (S.puts ws) a' w' → K a' w') : o.wp P a w K Q := by
  unfold eff at hv
  rw [ho] at hv
  simp only at hv
  split at hv
  · rename_i d cs hd hz
    obtain ⟨i, z, hi, hz, hm⟩ := TT.zero_ok hT hz
    refine op_box h hd hv (vs := z.cells.toList) (e := e) (zmatch_rep _ _ hm) ?_ hK
    unfold execOp
    simp [ho, Instr.alloc, zeroValue, typeInfo, hi, hz, newVar, newRow]
  · cases hv

theorem op_boxv (h : Inv w0 G S a w) {e : TypeId} {x : Operand} (ho : o.op = .box e x) {E : Env} {ws : List W} (hv : (eff E o).val S = some ws)
    (hK : ∀ a' w' G', Inv w0 G' (S.puts ws) a' w' → K a' w') : o.wp P a w K Q := by
  unfold eff at hv
  rw [ho] at hv
  simp only at hv
  split at hv
  · rename_i d hd
    simp only [Rd.val_bind, Option.bind_eq_some_iff] at hv
    obtain ⟨av, h1, x', h2, hv⟩ := hv
    have hr := avV_rep h2 (evalO_rep h h1)
    obtain ⟨vs, hvc, hc⟩ := hr.vcells
    refine op_box h hd hv (vs := vs) (e := e) hc ?_ hK
    unfold execOp
    simp [ho, Instr.box, newVar, newRow, hvc]
  · cases hv

/-- the cells of an element that is the call's own -/
def AN (G : Gh) (k j b : Nat) : Prop := G.ow b = some (.own k j) ∧ ∀ len cap, G.ov k j ≠ .slice (some ⟨b, 0, none⟩) len cap

theorem Inv.addN (h : Inv w0 G S a w) (k j : Nat) : Inv w0 { G with S := fun b o => G.S b o ∨ (b < w.heap.size ∧ AN G k j b) } S a w ∧ Mv G { G with S := fun b o => G.S b o ∨ (b < w.heap.size ∧ AN G k j b) } w w :=
  h.addS _ (fun b o hb => ⟨hb.1, fun i hi => (by rw [hb.2.1] at hi; cases hi), fun k' j' t xs deep m _ len cap hov how => by
    rw [hb.2.1] at how
    cases how
    exact absurd hov (hb.2.2 len cap)⟩) fun b o hb => (h.olt _ _ hb.2.1).1

theorem op_load (h : Inv w0 G S a w) {t : TypeId} {p : Operand} (ho : o.op = .load t p) {E : Env} (hT : E.tt.ok P = true) {ws : List W} (hv : (eff E o).val S = some ws)
    (hK : ∀ a' w' G', Inv w0 G' (S.puts ws) a' w' → K a' w') : o.wp P a w K Q := by
  unfold eff at hv
  rw [ho] at hv
  simp only at hv
  split at hv
  · cases hv
  rename_i agg n hs
  simp only [Rd.val_bind, Option.bind_eq_some_iff] at hv
  obtain ⟨av, h1, hv⟩ := hv
  have hr := evalO_rep h h1
  split at hv
  · rename_i b off
    simp only [Rd.val] at hv
    split at hv
    · rename_i cs hcs
      simp only [Rd.val, Option.bind_eq_some_iff] at hv
      obtain ⟨x, hx, hv⟩ := hv
      split at hv
      · rename_i hn
        simp only [Rd.val, Option.some.injEq] at hv
        subst hv
        obtain ⟨_, vs, e, hh, hc⟩ := h.box b cs hcs
        refine op_load_cells hT h ho hs (g := G.bk b) (off := off) hr.2 (hc.seg off n) hn (fun j v hv => ?_) hx hK
        rw [cell_of_row w _ _ _ _ _ hh]
        simp only [Abs.seg, List.getElem?_take, List.getElem?_drop] at hv
        split at hv
        · simpa using hv
        · cases hv
      · cases hv
    · cases hv
  · rename_i ty x off
    simp only [Rd.val, Option.bind_eq_some_iff] at hv
    obtain ⟨y, hy, hv⟩ := hv
    split at hv
    · rename_i hn
      simp only [Rd.val, Option.some.injEq] at hv
      subst hv
      obtain ⟨b, of, hpv, vs, hvs⟩ := hr
      have hlen : (seg (ty.cells x) off n).length = n := hn
      have hj : ∀ j, j < n → ∃ d, (ty.cells x)[off + j]? = some d ∧ (seg (ty.cells x) off n)[j]? = some d := by
        intro j hj
        have : j < (seg (ty.cells x) off n).length := by omega
        refine ⟨(seg (ty.cells x) off n)[j], ?_, by simp [this]⟩
        have e : (seg (ty.cells x) off n)[j]? = some (seg (ty.cells x) off n)[j] := by simp [this]
        simp only [Abs.seg, List.getElem?_take, List.getElem?_drop] at e
        rw [if_pos hj] at e
        exact e
      refine op_load_cells hT h ho hs (g := b) (off := of + off) hpv (cs := (seg (ty.cells x) off n).map .d) (vs := (List.range n).map fun j => vs (off + j)) ?_ (by simp [hlen]) ?_ hy hK
      · refine CsRep.mk (by simp [hlen]) fun j c v hc hv => ?_
        simp only [List.getElem?_map, Option.map_eq_some_iff] at hc hv
        obtain ⟨d, hd, rfl⟩ := hc
        obtain ⟨j', hj', rfl⟩ := hv
        have hjn : j < n := by
          have := (List.getElem?_eq_some_iff.1 hj').1; simpa using this
        have : j' = j := by simp [hjn] at hj'; exact hj'.symm
        subst this
        obtain ⟨d', h3, h4⟩ := hj j' hjn
        rw [hd] at h4
        cases h4
        exact (hvs _ _ h3).2.2
      · intro j v hv
        simp only [List.getElem?_map, Option.map_eq_some_iff] at hv
        obtain ⟨j', hj', rfl⟩ := hv
        have hjn : j < n := by
          have := (List.getElem?_eq_some_iff.1 hj').1; simpa using this
        have : j' = j := by simp [hjn] at hj'; exact hj'.symm
        subst this
        obtain ⟨d', h3, h4⟩ := hj j' hjn
        rw [Nat.add_assoc]
        exact (hvs _ _ h3).1
    · cases hv
  · rename_i k j i sz off
    simp only [Rd.val] at hv
    split at hv
    · rename_i ty xs deep m hown
      split at hv
      case isFalse => cases hv
      rename_i hsz
      simp only [Rd.val, Option.bind_eq_some_iff] at hv
      obtain ⟨x, hx, y, hy, hv⟩ := hv
      split at hv
      · rename_i hn
        simp only [Rd.val, Option.some.injEq] at hv
        subst hv
        obtain ⟨hlk, b, len, cap, hov, hpv⟩ := hr
        obtain ⟨h', hm⟩ := h.addN k j
        have hO := h.owns k j
        rw [hown] at hO
        rcases hO with ⟨he, _⟩ | ⟨b', cap', arr, e, vs, fps, hv', hb, hcap, hmax, hasz, hfb, hc, hrr, hf, hdis, _⟩
        · rw [hov] at he; cases he
        rw [hov] at hv'
        injection hv' with e1 e2 e3
        injection e1 with e1
        injection e1 with e1 _ _
        subst e1
        have hlen : (seg (ty.cells x) off n).length = n := hn
        have hj : ∀ j, j < n → ∃ d, (ty.cells x)[off + j]? = some d ∧ (seg (ty.cells x) off n)[j]? = some d := by
          intro j hj
          have : j < (seg (ty.cells x) off n).length := by omega
          refine ⟨(seg (ty.cells x) off n)[j], ?_, by simp [this]⟩
          have e : (seg (ty.cells x) off n)[j]? = some (seg (ty.cells x) off n)[j] := by simp [this]
          simp only [Abs.seg, List.getElem?_take, List.getElem?_drop] at e
          rw [if_pos hj] at e
          exact e
        refine op_load_cells hT h' ho hs (g := b) (off := i * sz + off) hpv (cs := (seg (ty.cells x) off n).map .d) (vs := (List.range n).map fun j => vs i (off + j)) ?_ (by simp [hlen]) ?_ hy hK
        · refine CsRep.mk (by simp [hlen]) fun j' c v hc' hv => ?_
          simp only [List.getElem?_map, Option.map_eq_some_iff] at hc' hv
          obtain ⟨d, hd, rfl⟩ := hc'
          obtain ⟨j'', hj', rfl⟩ := hv
          have hjn : j' < n := by
            have := (List.getElem?_eq_some_iff.1 hj').1; simpa using this
          have : j'' = j' := by simp [hjn] at hj'; exact hj'.symm
          subst this
          obtain ⟨d', h3, h4⟩ := hj j'' hjn
          rw [hd] at h4
          cases h4
          refine (hrr i x _ d hx h3).toRep (fun b o hs => .inl hs) fun c o hcc _ => .inr ?_
          have := hf _ _ _ hcc
          refine ⟨(h.olt _ _ this.1).2, this.1, fun len' cap'' heq => ?_⟩
          rw [hov] at heq
          injection heq with e1 _ _
          injection e1 with e1
          injection e1 with e1 _ _
          exact this.2 e1.symm
        · intro j' v hv
          simp only [List.getElem?_map, Option.map_eq_some_iff] at hv
          obtain ⟨j'', hj', rfl⟩ := hv
          have hjn : j' < n := by
            have := (List.getElem?_eq_some_iff.1 hj').1; simpa using this
          have : j'' = j' := by simp [hjn] at hj'; exact hj'.symm
          subst this
          obtain ⟨d', h3, h4⟩ := hj j'' hjn
          have := hc i x _ d' hx h3
          rw [cell_of_row w _ _ _ _ _ hb, Nat.add_assoc, ← hsz]
          exact this
      · cases hv
    · cases hv
  · cases hv

theorem op_fieldAddr (h : Inv w0 G S a w) {s : TypeId} {p : Operand} {f : Nat} (ho : o.op = .fieldAddr s p f) {E : Env} (hT : E.tt.ok P = true) {ws : List W} (hv : (eff E o).val S = some ws)
    (hK : ∀ a' w' G', Inv w0 G' (S.puts ws) a' w' → K a' w') : o.wp P a w K Q := by
  unfold eff at hv
  rw [ho] at hv
  simp only at hv
  split at hv
  · cases hv
  rename_i fo agg n hf
  obtain ⟨F, fd, d, i, hu, hF, hoff, hdu, hi, _, hsz, hpos⟩ := TT.field_ok hT hf
  simp only [Rd.val_bind, Option.bind_eq_some_iff] at hv
  obtain ⟨av, h1, hv⟩ := hv
  have hr := evalO_rep h h1
  have run : ∀ g off, a.eval p = .pointer (some ⟨g, off, none⟩) → (execOp a.eval o).run P w = .ok (.value (.pointer (some ⟨g, off + fo, none⟩))) w := by
    intro g off hp
    have hne : i.size ≠ 0 := by omega
    unfold execOp
    simp only [ho, hp, Instr.fieldAt, Sem.run_bind, run_underlying hu, Result.andThen_ok, hF, Instr.sureAddr, Sem.run_pure, fieldPlace, sizeOf, typeInfo, run_program, hi]
    simp [hne, hoff, addr_add]
  split at hv
  · rename_i b off
    simp only [Rd.val, Option.some.injEq] at hv
    subst hv
    exact wp_of_run (run _ _ hr.2) (hK _ _ _ (h.dst (av := .v (.one (.ptr b (off + fo)))) ⟨hr.1, rfl⟩))
  · rename_i ty x off
    simp only [Rd.val, Option.some.injEq] at hv
    subst hv
    obtain ⟨b, of, hpv, he⟩ := hr
    refine wp_of_run (run _ _ hpv) (hK _ _ _ (h.dst (av := .elt ty x (off + fo)) ⟨b, of, ?_, he⟩))
    rw [Nat.add_assoc]
  · rename_i k j i sz off
    simp only [Rd.val, Option.some.injEq] at hv
    subst hv
    obtain ⟨hlk, b, len, cap, hov, hpv⟩ := hr
    refine wp_of_run (run _ _ hpv) (hK _ _ _ (h.dst (av := .oelt k j i sz (off + fo)) ⟨hlk, b, len, cap, hov, ?_⟩))
    rw [Nat.add_assoc]
  · cases hv
end ops
end Go.Abs
