/- The operations, one by one: min and max, fields, literals of structs, slices of slices. -/
import Derived.Test.YtiedhibpaooldaaSound6
import Derived.Laws.BytesString
set_option linter.unusedSimpArgs false
set_option linter.unusedVariables false
namespace Go.Abs
open Go.RowKit

theorem setSeg_length {α : Type} (cs : List α) (off : Nat) (vs : List α) (h : off + vs.length ≤ cs.length) : (setSeg cs off vs).length = cs.length := by
  simp [setSeg]; omega
theorem setSeg_cons {α : Type} (cs : List α) (off : Nat) (v : α) (vs : List α) (h : off + (vs.length + 1) ≤ cs.length) : setSeg (cs.set off v) (off + 1) vs = setSeg cs off (v :: vs) := by
  apply List.ext_getElem?
  intro i
  simp only [setSeg, List.getElem?_append, List.getElem?_take, List.getElem?_drop, List.getElem?_set, List.length_append, List.length_take, List.length_set, List.length_cons, List.getElem?_cons]
  have e1 : min (off + 1) cs.length = off + 1 := by omega
  have e2 : min off cs.length = off := by omega
  rw [e1, e2]
  by_cases h1 : i < off
  · have a1 : i < off + 1 := by omega
    have a2 : i < off + 1 + vs.length := by omega
    have a3 : i < off + (vs.length + 1) := by omega
    have a4 : off ≠ i := by omega
    simp [h1, a1, a2, a3, a4]
  · by_cases h2 : i = off
    · subst h2
      have a2 : i < i + 1 + vs.length := by omega
      have a5 : i < cs.length := by omega
      simp [a2, a5]
    · have a1 : ¬ i < off + 1 := by omega
      by_cases h3 : i < off + 1 + vs.length
      · have a3 : i < off + (vs.length + 1) := by omega
        have a6 : i - off ≠ 0 := by omega
        have a7 : i - off - 1 = i - (off + 1) := by omega
        simp [h1, a1, h3, a3, a6, a7]
      · have a3 : ¬ i < off + (vs.length + 1) := by omega
        have a8 : off ≠ off + 1 + vs.length + (i - (off + 1 + vs.length)) := by omega
        simp only [h3, a3, a8, if_false]
        congr 1
        omega
theorem fold_set : ∀ (vs : List Value) (k off : Nat) (cs : Array Value), off + k + vs.length ≤ cs.size →
    (vs.zipIdx k).foldl (fun (cs : Array Value) (p : Value × Nat) => cs.setIfInBounds (off + p.2) p.1) cs = (setSeg cs.toList (off + k) vs).toArray
  | [], k, off, cs, _ => by simp [setSeg]
  | v :: vs, k, off, cs, h => by
    simp only [List.zipIdx_cons, List.foldl_cons]
    rw [fold_set vs (k + 1) off _ (by simp at h ⊢; omega)]
    simp only [Array.toList_setIfInBounds]
    congr 1
    exact setSeg_cons cs.toList (off + k) v vs (by simp at h ⊢; omega)

section ops
variable {P : Program} {w0 : Bs} {G : Gh} {S : St} {a : Act} {w : World} {o : Oper} {K : Act → World → Prop} {Q : Exit → Act → World → Prop}

theorem op_maxmin (h : Inv w0 G S a w) {c : Call} (ho : o.op = .call c) (hcc : c.callee = .builtin .max ∨ c.callee = .builtin .min) {E : Env} {ws : List W} (hv : (eff E o).val S = some ws)
    (hK : ∀ a' w' G', Inv w0 G' (S.puts ws) a' w' → K a' w') : o.wp P a w K Q := by
  unfold eff at hv
  rw [ho] at hv
  rcases hcc with hcc | hcc
  all_goals
    simp only [hcc] at hv
    split at hv
    · rename_i x y hxy
      have hargs := toList_two hxy
      simp only [Rd.val_bind, Option.bind_eq_some_iff] at hv
      obtain ⟨av, h1, d, h2, hv⟩ := hv
      have hx := avD_rep h2 (evalO_rep h h1)
      generalize hxv : a.eval x = xv at hx
      split at hv
      · rename_i m
        simp only [Rd.val_bind, Option.bind_eq_some_iff] at hv
        obtain ⟨av', h3, d', h4, hv⟩ := hv
        have hy := avD_rep h4 (evalO_rep h h3)
        generalize hyv : a.eval y = yv at hy
        split at hv
        · rename_i n
          simp only [Rd.val, Option.some.injEq] at hv
          subst hv
          cases hx
          cases hy
          refine wp_of_run ?_ (hK _ _ _ (h.dst (Rep.int _ _)))
          refine run_call_builtin ho hcc ?_
          first
            | (have := run_max_int2 (P := P) w c.argTypes o.type .i64 .i64 m n
               simp [builtin, hargs, hxv, hyv, this]; done)
            | (have := run_min_int2 (P := P) w c.argTypes o.type .i64 .i64 m n
               simp [builtin, hargs, hxv, hyv, this]; done)
        · cases hv
      · cases hv
    · cases hv

theorem bytes_fold : ∀ (ns : List Int) (s : ByteArray), (ns.foldl (fun r n => r.push (UInt8.ofNat n.toNat)) s).data.toList = s.data.toList ++ ns.map fun n => UInt8.ofNat n.toNat
  | [], s => by simp
  | n :: ns, s => by
    rw [List.foldl_cons, bytes_fold ns]
    simp [ByteArray.push]
theorem rep_bytes {S0 : Nat → Nat → Prop} {xs : List Int} {v : Value} (h : Rep w S0 (.list (.base .u8) xs) v) : ∃ b : ByteArray, (Conv.bytesToString v).run P w = .ok (.string b) w ∧ b.data.toList = bytesOf xs := by
  have some_ : ∀ (ad : Addr) (cap : Nat), (loadCells ad xs.length).run P w = .ok (xs.map (Value.int .u8)).toArray w → ∃ b : ByteArray, (Conv.bytesToString (.slice (some ad) xs.length cap)).run P w = .ok (.string b) w ∧ b.data.toList = bytesOf xs := by
    intro ad cap hl
    exact ⟨_, run_bytesToString w ad xs.length cap xs hl, by rw [bytes_fold]; rfl⟩
  generalize hdd : D.list (.base .u8) xs = dd at h
  cases h <;> cases hdd
  · exact ⟨ByteArray.empty, by simp [Conv.bytesToString], rfl⟩
  · rename_i ad cap
    exact some_ ad cap (run_loadCells_list (P := P) w ad [] (by simp))
  · rename_i b off cap vs hcap hc hr
    refine some_ _ cap ?_
    have hlen : (xs.map (Value.int .u8)).length = xs.length := by simp
    rw [← hlen]
    refine run_loadCells_list (P := P) w _ _ fun j v hj => ?_
    simp only [List.getElem?_map, Option.map_eq_some_iff] at hj
    obtain ⟨x, hx, rfl⟩ := hj
    have h1 := hc j x 0 (.int .u8 x) hx rfl
    have h2 := hr j x 0 (.int .u8 x) hx rfl
    have e : vs j 0 = .int .u8 x := by
      generalize vs j 0 = v at h2
      cases h2
      rfl
    rw [addr_add]
    have h3 := h1.1
    rw [e] at h3
    simpa [Ty.size, Base.size] using h3
theorem op_convert (h : Inv w0 G S a w) {T0 T : TypeId} {x : Operand} (ho : o.op = .convert T0 T x) {E : Env} (hT : E.tt.ok P = true) {ws : List W} (hv : (eff E o).val S = some ws)
    (hK : ∀ a' w' G', Inv w0 G' (S.puts ws) a' w' → K a' w') : o.wp P a w K Q := by
  unfold eff at hv
  rw [ho] at hv
  simp only [Rd.val_bind, Option.bind_eq_some_iff] at hv
  obtain ⟨av, h1, hv⟩ := hv
  have hr := evalO_rep h h1
  split at hv
  · rename_i k0 k hk0 hk
    have hu := TT.int_ok hT hk
    have hu0 := TT.int_ok hT hk0
    simp only [Rd.val_bind, Option.bind_eq_some_iff, Rd.val, Option.some.injEq] at hv
    obtain ⟨n, h2, rfl⟩ := hv
    obtain ⟨kk, hn⟩ := avInt_rep h2 hr
    refine wp_of_run (v := .int k (k.wrap n)) (w' := w) ?_ (hK _ _ _ (h.dst (Rep.int _ _)))
    have hc : (convert T0 T (.int kk n)).run P w = .ok (.int k (k.wrap n)) w := by
      simp [convert, run_underlying hu0, run_underlying hu, Conv.intToInt]
    unfold execOp
    simp [ho, hn, hc]
  · split at hv
    case isFalse => cases hv
    rename_i hg
    have hu := TT.str_ok hT hg.1
    obtain ⟨e, inf, z, hus, hi, hsz, _, hz, hzs, hzm⟩ := TT.elem_ok hT hg.2
    split at hv
    case h_2 => cases hv
    rename_i c
    simp only [listOf, Rd.val_bind, Option.bind_eq_some_iff, Rd.val, Option.some.injEq] at hv
    obtain ⟨xs, ⟨d, h2, xs', h3, h4⟩, rfl⟩ := hv
    subst h4
    have hd := D.asList_some h3
    subst hd
    have hrep := cD_rep h h2 hr (ownKeys [c]) (fun k j e => by subst e; simp [ownKeys])
    obtain ⟨b, hb, hbl⟩ := rep_bytes (P := P) hrep
    refine wp_of_run (v := .string b) (w' := w) ?_ (hK _ _ _ (h.dst (by rw [← hbl]; exact Rep.str _)))
    have hsl : ∃ ad l cc, a.eval x = .slice ad l cc := by
      generalize a.eval x = v at hrep
      cases hrep <;> exact ⟨_, _, _, rfl⟩
    obtain ⟨ad, l, cc, hx⟩ := hsl
    rw [hx] at hb
    have hue : P.underlying e = some (.int .u8) := TT.u8_ok hT hg.2 hus
    have hc : (convert T0 T (.slice ad l cc)).run P w = .ok (.string b) w := by
      rw [run_convert_bytes_string w T0 T e ad l cc hus hue hu]
      exact hb
    unfold execOp
    simp [ho, hx, hc]

theorem op_field (h : Inv w0 G S a w) {T : TypeId} {x : Operand} {f : Nat} (ho : o.op = .field T x f) {E : Env} (hT : E.tt.ok P = true) {ws : List W} (hv : (eff E o).val S = some ws)
    (hK : ∀ a' w' G', Inv w0 G' (S.puts ws) a' w' → K a' w') : o.wp P a w K Q := by
  unfold eff at hv
  rw [ho] at hv
  simp only at hv
  split at hv
  · cases hv
  rename_i fo agg n hf
  obtain ⟨F, fd, d, i, hu, hF, hoff, hdu, hi, hd, hsz, hpos⟩ := TT.field_ok hT hf
  simp only [Rd.val_bind, Option.bind_eq_some_iff] at hv
  obtain ⟨av, h1, hv⟩ := hv
  have hr := evalO_rep h h1
  split at hv
  · rename_i cs
    simp only [Rd.val, Option.bind_eq_some_iff] at hv
    obtain ⟨y, hy, hv⟩ := hv
    split at hv
    · rename_i hn
      simp only [Rd.val, Option.some.injEq] at hv
      subst hv
      obtain ⟨vs, hxv, hc⟩ := hr
      obtain ⟨m1, m2⟩ := mkV_rep hy (hc.seg fo n)
      have hagg : (isAgg fd.type).run P w = .ok agg w := by
        unfold isAgg
        rw [Sem.run_bind, run_underlying hdu w, ← hd]
        cases d <;> rfl
      cases agg with
      | true =>
        refine wp_of_run (v := .agg (seg vs fo n).toArray) (w' := w) ?_ (hK _ _ _ (h.dst (avOfV_rep (m1 rfl))))
        unfold execOp
        simp [ho, hxv, Instr.field, run_underlying hu, hF, asAgg, part, hagg, sizeOf, typeInfo, hi, hoff, hsz, Abs.seg]
      | false =>
        obtain ⟨v, hv1, hv2⟩ := m2 rfl
        refine wp_of_run (v := v) (w' := w) ?_ (hK _ _ _ (h.dst (avOfV_rep hv2)))
        have : vs[fo]? = some v := by
          have e : (seg vs fo n)[0]? = some v := by rw [hv1]; rfl
          simp only [Abs.seg, List.getElem?_take, List.getElem?_drop] at e
          rw [if_pos hpos] at e
          exact e
        unfold execOp
        simp [ho, hxv, Instr.field, run_underlying hu, hF, asAgg, part, hagg, hoff, this]
    · cases hv
  · cases hv

theorem fill_one {place : Nat → Option (Nat × Nat)} {i : Nat} {off n : Nat} {v : Value} {vs : List Value} {cells : Array Value} {rest : List (Nat × Value)} (hp : place i = some (off, n)) (hv : v.cells = vs.toArray)
    (hn : vs.length = n) (hl : off + n ≤ cells.size) : Instr.fill place cells ((i, v) :: rest) = Instr.fill place (setSeg cells.toList off vs).toArray rest := by
  have e := fold_set vs 0 off cells (by omega)
  simp only [Instr.fill, hp, hv]
  have h1 : ¬ (vs.toArray.size ≠ n ∨ off + vs.toArray.size > cells.size) := by simp [hn]; omega
  simp only [Bool.or_eq_true, decide_eq_true_eq, List.size_toArray] at *
  rw [if_neg (by simp [hn]; omega)]
  congr 1
  rw [← Array.foldl_toList]
  simpa using e

theorem fillA_rep (h : Inv w0 G S a w) {fs : List (Nat × Bool × Nat)} : ∀ {parts : List (Nat × Operand)} {z cs : List C} {vs : List Value}, (eff.fillA fs parts z).val S = some cs → CsRep G w z vs →
    ∃ us : List Value, CsRep G w cs us ∧ Instr.fill ((fs.map fun x => (x.1, x.2.2)).toArray[·]?) vs.toArray (parts.map fun p => (p.1, a.eval p.2)) = some us.toArray
  | [], z, cs, vs, hv, hz => by
    simp only [eff.fillA, Rd.val, Option.some.injEq] at hv
    subst hv
    exact ⟨vs, hz, rfl⟩
  | (i, x) :: r, z, cs, vs, hv, hz => by
    simp only [eff.fillA] at hv
    split at hv
    · cases hv
    rename_i fo agg n hf
    simp only [Rd.val_bind, Option.bind_eq_some_iff] at hv
    obtain ⟨av, h1, x', h2, hv⟩ := hv
    split at hv
    · rename_i hn
      have hr := avV_rep h2 (evalO_rep h h1)
      obtain ⟨us, hus, hcs⟩ := hr.vcells
      have hl := hcs.length
      have hzl := hz.length
      obtain ⟨us', h3, h4⟩ := fillA_rep h hv (hz.setSeg hcs fo)
      refine ⟨us', h3, ?_⟩
      rw [← h4]
      simp only [List.map_cons]
      rw [fill_one (n := n) (off := fo) (by simp [hf]) hus (by omega) (by simp; omega)]
    · cases hv

theorem op_build (h : Inv w0 G S a w) {T : TypeId} {parts : Array (Nat × Operand)} (ho : o.op = .build T parts) {E : Env} (hT : E.tt.ok P = true) {ws : List W} (hv : (eff E o).val S = some ws)
    (hK : ∀ a' w' G', Inv w0 G' (S.puts ws) a' w' → K a' w') : o.wp P a w K Q := by
  unfold eff at hv
  rw [ho] at hv
  simp only at hv
  split at hv
  · rename_i z fs hz hf
    obtain ⟨i, zv, hi, hzv, hm⟩ := TT.zero_ok hT hz
    obtain ⟨F, hu, hpl⟩ := TT.fields_ok hT hf
    simp only [Rd.val_bind, Option.bind_eq_some_iff, Rd.val, Option.some.injEq] at hv
    obtain ⟨cs, h1, rfl⟩ := hv
    obtain ⟨us, hus, hfill⟩ := fillA_rep h h1 (zmatch_rep (G := G) (w := w) _ _ hm)
    refine wp_of_run (v := .agg us.toArray) (w' := w) ?_ (hK _ _ _ (h.dst (av := .v (.agg cs)) ⟨us, rfl, hus⟩))
    have hb : P.built T (parts.map fun (i, x) => (i, a.eval x)).toList = some us.toArray := by
      unfold Program.built
      simp only [hi, hu, hzv, hpl]
      simpa using hfill
    have := run_build (P := P) w T _ _ hb
    unfold execOp
    simp [ho, this]
  · cases hv
end ops
end Go.Abs
