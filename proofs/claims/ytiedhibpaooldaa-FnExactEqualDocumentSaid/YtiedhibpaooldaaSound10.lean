/- make, and append. -/
import Derived.Test.YtiedhibpaooldaaSound9
namespace Go.Abs
open Go.RowKit

theorem zmatch_ow {w : World} {S : Nat → Nat → Prop} {dp : Bool} {fp : Nat → Prop} : ∀ (ds : List D) (vs : List Value), zmatch (ds.map .d) vs = true → ∀ (j : Nat) (d : D) (v : Value), ds[j]? = some d → vs[j]? = some v → Ow w S dp d v fp
  | [], vs, _, j, d, v, hd, _ => by simp at hd
  | d0 :: ds, [], h, j, d, v, _, hv => by simp at hv
  | d0 :: ds, v0 :: vs, h, j, d, v, hd, hv => by
    have key : Ow w S dp d0 v0 fp ∧ zmatch (ds.map .d) vs = true := by
      simp only [List.map_cons] at h
      unfold zmatch at h
      split at h
      · simp_all
      · rename_i k n cs' k' n' vs' e1 e2
        cases e2
        injection e1 with e1 e3
        injection e1 with e1
        subst e1; subst e3
        simp only [Bool.and_eq_true, decide_eq_true_eq] at h
        obtain ⟨⟨rfl, rfl⟩, h3⟩ := h
        exact ⟨.int _ _ _, h3⟩
      · rename_i b cs' b' vs' e1 e2
        cases e2
        injection e1 with e1 e3
        injection e1 with e1
        subst e1; subst e3
        simp only [Bool.and_eq_true, beq_iff_eq] at h
        obtain ⟨rfl, h3⟩ := h
        exact ⟨.bool _ _, h3⟩
      · rename_i s cs' v' vs' e1 e2
        cases e2
        injection e1 with e1 e3
        injection e1 with e1
        subst e1; subst e3
        simp only [Bool.and_eq_true, decide_eq_true_eq] at h
        obtain ⟨rfl, h3⟩ := h
        exact ⟨.str _ _, h3⟩
      · rename_i cs' vs' e1 e2
        injection e1 with e1 e3
        cases e1
      · rename_i t cs' vs' e1 e2
        cases e2
        injection e1 with e1 e3
        injection e1 with e1
        subst e1; subst e3
        exact ⟨.nil _ _, h⟩
      · cases h
    cases j with
    | zero => simp at hd hv; subst hd; subst hv; exact key.1
    | succ j => exact zmatch_ow ds vs key.2 j d v (by simpa using hd) (by simpa using hv)

section ops
variable {P : Program} {w0 : Bs} {G : Gh} {S : St} {a : Act} {w : World} {o : Oper} {K : Act → World → Prop} {Q : Exit → Act → World → Prop}

theorem op_makeSlice (h : Inv w0 G S a w) {T : TypeId} {l c : Operand} (ho : o.op = .makeSlice T l c) {E : Env} (hT : E.tt.ok P = true) {ws : List W} (hv : (eff E o).val S = some ws)
    (hK : ∀ a' w' G', Inv w0 G' (S.puts ws) a' w' → K a' w') : o.wp P a w K Q := by
  unfold eff at hv
  rw [ho] at hv
  simp only at hv
  split at hv
  · rename_i d t hd ht
    obtain ⟨e, inf, z, hu, hi, hsz, hby, hz, hzs, hzm⟩ := TT.elem_ok hT ht
    split at hv
    · rename_i i j
      split at hv
      · rename_i hij
        subst hij
        simp only [Rd.val_bind, Option.bind_eq_some_iff, Rd.val, Option.some.injEq] at hv
        obtain ⟨av, h1, n, h2, m, h3, ws', h4, rfl⟩ := hv
        obtain ⟨kk, hn⟩ := avInt_rep h2 (evalO_rep h h1)
        obtain ⟨hdO, rfl⟩ := fresh_val h4
        unfold mk at h3
        split at h3
        case isFalse => cases h3
        rename_i hbd
        simp only [Option.some.injEq] at h3
        subst h3
        have hwrap : IntKind.i64.wrap n = n := IntWalk.i64_in (by omega) (by omega)
        let Z : Array Value := if n.toNat * t.size = 0 then #[] else z.cells
        let arr : Array Value := (Array.range (n.toNat * t.size)).map (fun m => Z[m % Z.size]!)
        have hbel : Below w.heap.size w (w.alloc (.cells arr e)) := (Below.refl _ _).alloc (Nat.le_refl _) _
        have h6 := h.grow hbel
        have hnew := heap_alloc_new w (.cells arr e)
        have hp := t.size_pos
        have hO : OwT (w.alloc (.cells arr e)) G.S true true t (List.replicate n.toNat t.zero) (.slice (some ⟨w.heap.size, 0, none⟩) n.toNat n.toNat) (fun c => c = w.heap.size) := by
          refine .inr ⟨w.heap.size, n.toNat, arr, e, fun _ j => z.cells.toList.getD j undef, fun _ _ _ => False, by simp, hnew, by simp, ?_, by simp [arr], rfl, ?_, ?_, ?_, ?_, ?_⟩
          · unfold maxLen; omega
          · intro i x j dd hxi hdd
            have hi' : i < n.toNat := by have := (List.getElem?_eq_some_iff.1 hxi).1; simpa using this
            have hj : j < t.size := by
              have := (List.getElem?_eq_some_iff.1 hdd).1
              rwa [Ty.cells_length] at this
            have hlt : i * t.size + j < n.toNat * t.size := by
              have : (i + 1) * t.size ≤ n.toNat * t.size := Nat.mul_le_mul_right _ hi'
              rw [Nat.succ_mul] at this
              omega
            have hZ : Z = z.cells := if_neg (by omega)
            have hmod : (i * t.size + j) % t.size = j := by rw [Nat.mul_comm, Nat.mul_add_mod, Nat.mod_eq_of_lt hj]
            have hjz : j < z.cells.size := by omega
            simp [arr, hlt, hZ, hzs, hmod]
            rw [getElem!_pos z.cells j hjz, getElem?_pos z.cells j hjz]; rfl
          · intro i x j dd hxi hdd
            have hx0 : x = t.zero := by
              have := List.mem_of_getElem? hxi
              exact (List.mem_replicate.1 this).2
            subst hx0
            have hj : j < t.size := by
              have := (List.getElem?_eq_some_iff.1 hdd).1
              rwa [Ty.cells_length] at this
            have hjz : j < z.cells.toList.length := by simp; omega
            exact zmatch_ow _ _ hzm j dd _ hdd (by show z.cells.toList[j]? = some (z.cells.toList.getD j undef); rw [List.getD_eq_getElem?_getD, List.getElem?_eq_getElem hjz]; rfl)
          · intro _ _ _ hf; exact hf.elim
          · intro _ _ _ _ _ hf; exact hf.elim
          · intro oo hs
            exact absurd (h.sok _ oo hs).1 (Nat.lt_irrefl _)
        obtain ⟨G2, h7⟩ := h6.newList d (v := .slice (some ⟨w.heap.size, 0, none⟩) n.toNat n.toNat) (fun c => c = w.heap.size) hdO (fun c hc => by
          subst hc
          exact ⟨h.below.size, by simp, fun i hb => absurd (h.olt _ _ hb).2 (Nat.lt_irrefl _), fun k' j' _ _ _ _ hb => absurd (h.olt _ _ hb).2 (Nat.lt_irrefl _)⟩) hO
        refine wp_of_run (v := .slice (some ⟨w.heap.size, 0, none⟩) n.toNat n.toNat) (w' := w.alloc (.cells arr e)) ?_ (hK _ _ G2 ?_)
        · have hb2 : (inf.bytes : Int) * n ≤ 140737488355328 := by
            have h1 : (inf.bytes : Int) * n ≤ 4096 * n := Int.mul_le_mul_of_nonneg_right (by omega) hbd.1
            omega
          have htl : (decide (n < 0) || decide ((inf.bytes : Int) * n > 2 ^ 48)) = false := by
            simp only [Bool.or_eq_false_iff, decide_eq_false_iff_not]
            omega
          unfold execOp
          simp only [ho, Instr.makeSlice, Sem.run_bind, run_underlying hu, Result.andThen_ok, hn, asInt, asIntOf, Sem.run_pure, typeInfo, run_program, hi, hwrap, htl, sizeOf]
          have h0n : ¬ n < 0 := by omega
          simp only [h0n, decide_false, Bool.false_or, gt_iff_lt, Int.lt_irrefl, Bool.false_eq_true, if_false]
          have e0 : ∀ f : Nat → Value, Array.map f (Array.range 0) = #[] := fun f => Array.eq_empty_of_size_eq_zero (by simp)
          by_cases h0 : n.toNat * t.size = 0
          · simp [h0, e0, newRow, arr, hi, hsz]
          · simp [h0, zeroValue, typeInfo, hi, hz, hsz, newRow, arr, Z]
        · rw [hd]
          exact h7
      · cases hv
    · cases hv
  · cases hv
end ops
end Go.Abs
