/- Plain laws: FnOps. -/
import Derived.Test.YtmadjfnpidahnaaOps2
set_option linter.unusedSimpArgs false
set_option linter.unusedVariables false
namespace Go.Proofs.Ytmadjfnpidahnaa
open Go.Abs Go.Proofs

theorem loop_fin {X ρ : Type} {g : X → Option (X ⊕ ρ)} {x : X} {z : Option ρ} {v : ρ} (h : g x = z.bind fun r => some (.inr r)) (hz : z = some v) : loopD g x = some v := by
  rw [loopD_eq, h, hz]; rfl
theorem opsTail (l : List GOp) (hf : FitD B20 (.list (.base .op) l)) (ok : Bool) (hok : ok = (allAt (logAt l) l 0 && decide ((l.length : Int) ≤ 60))) : (loopD (fun (x12 : (List GOp) × Bool × Int × Int) =>
      bif (decide (x12.2.2.2 < 3)) then
        (iCountBy x12.1 x12.2.2.2).bind fun r13 =>
        some (.inl (x12.1, x12.2.1, w64 (x12.2.2.1 + r13), w64 (x12.2.2.2 + 1)))
      else
      (
        bif x12.2.1 then
          bif (x12.2.2.1 != (x12.1.length : Int)) then
            some (false)
          else
          loopD (fun (x14 : (List GOp) × Bool × Int) =>
            bif (decide (x14.2.2 < (x14.1.length : Int))) then
              bif x14.2.1 then
                (idx x14.1 x14.2.2).bind fun _ =>
                (x14.1[x14.2.2.toNat]?).bind fun e16 =>
                (iIsValidOp e16).bind fun r17 =>
                bif (!r17) then
                  some (.inr (false))
                else
                bif (decide (x14.2.2 > 0)) then
                  (idx x14.1 (w64 (x14.2.2 - 1))).bind fun _ =>
                  (x14.1[(w64 (x14.2.2 - 1)).toNat]?).bind fun e19 =>
                  (iStampVersion e19).bind fun r20 =>
                  (idx x14.1 x14.2.2).bind fun _ =>
                  (x14.1[x14.2.2.toNat]?).bind fun e22 =>
                  (iStampVersion e22).bind fun r23 =>
                  bif (decide (r20 ≥ r23)) then
                    some (.inr (false))
                  else
                  (idx x14.1 x14.2.2).bind fun _ =>
                  (x14.1[x14.2.2.toNat]?).bind fun e25 =>
                  (iStampVersion e25).bind fun r26 =>
                  bif (decide (r26 > 999)) then
                    some (.inr (false))
                  else
                    (iLastTime x14.1).bind fun r27 =>
                    (idx x14.1 x14.2.2).bind fun _ =>
                    (x14.1[x14.2.2.toNat]?).bind fun e29 =>
                    bif (decide (r27 < e29.time)) then
                      some (.inr (false))
                    else
                      some (.inl (x14.1, x14.2.1, w64 (x14.2.2 + 1)))
                else
                (idx x14.1 x14.2.2).bind fun _ =>
                (x14.1[x14.2.2.toNat]?).bind fun e31 =>
                (iStampVersion e31).bind fun r32 =>
                bif (decide (r32 > 999)) then
                  some (.inr (false))
                else
                  (iLastTime x14.1).bind fun r33 =>
                  (idx x14.1 x14.2.2).bind fun _ =>
                  (x14.1[x14.2.2.toNat]?).bind fun e35 =>
                  bif (decide (r33 < e35.time)) then
                    some (.inr (false))
                  else
                    some (.inl (x14.1, x14.2.1, w64 (x14.2.2 + 1)))
              else
                some (.inr (true))
            else
              some (.inr (true))
          ) (x12.1, x12.2.1, 0)
        else
        loopD (fun (x36 : (List GOp) × Bool × Int) =>
          bif (decide (x36.2.2 < (x36.1.length : Int))) then
            bif x36.2.1 then
              (idx x36.1 x36.2.2).bind fun _ =>
              (x36.1[x36.2.2.toNat]?).bind fun e38 =>
              (iIsValidOp e38).bind fun r39 =>
              bif (!r39) then
                some (.inr (false))
              else
              bif (decide (x36.2.2 > 0)) then
                (idx x36.1 (w64 (x36.2.2 - 1))).bind fun _ =>
                (x36.1[(w64 (x36.2.2 - 1)).toNat]?).bind fun e41 =>
                (iStampVersion e41).bind fun r42 =>
                (idx x36.1 x36.2.2).bind fun _ =>
                (x36.1[x36.2.2.toNat]?).bind fun e44 =>
                (iStampVersion e44).bind fun r45 =>
                bif (decide (r42 ≥ r45)) then
                  some (.inr (false))
                else
                (idx x36.1 x36.2.2).bind fun _ =>
                (x36.1[x36.2.2.toNat]?).bind fun e47 =>
                (iStampVersion e47).bind fun r48 =>
                bif (decide (r48 > 999)) then
                  some (.inr (false))
                else
                  (iLastTime x36.1).bind fun r49 =>
                  (idx x36.1 x36.2.2).bind fun _ =>
                  (x36.1[x36.2.2.toNat]?).bind fun e51 =>
                  bif (decide (r49 < e51.time)) then
                    some (.inr (false))
                  else
                    some (.inl (x36.1, x36.2.1, w64 (x36.2.2 + 1)))
              else
              (idx x36.1 x36.2.2).bind fun _ =>
              (x36.1[x36.2.2.toNat]?).bind fun e53 =>
              (iStampVersion e53).bind fun r54 =>
              bif (decide (r54 > 999)) then
                some (.inr (false))
              else
                (iLastTime x36.1).bind fun r55 =>
                (idx x36.1 x36.2.2).bind fun _ =>
                (x36.1[x36.2.2.toNat]?).bind fun e57 =>
                bif (decide (r55 < e57.time)) then
                  some (.inr (false))
                else
                  some (.inl (x36.1, x36.2.1, w64 (x36.2.2 + 1)))
            else
              some (.inr (true))
          else
            some (.inr (true))
        ) (x12.1, x12.2.1, 0)
      ).bind fun r => some (.inr r)
    ) (l, ok, 0, 0) : Option Bool) = some true := by
  have hl := list20 hf
  have hll := lim20 hl
  have c0 := iCountBy_ok l 0 hl
  have c1 := iCountBy_ok l 1 hl
  have c2 := iCountBy_ok l 2 hl
  have b : ∀ k, (cntBy l k : Int) ≤ 1048576 := fun k => by
    have : cntBy l k ≤ l.length := List.length_filter_le _ _
    omega
  have b0 := b 0
  have b1 := b 1
  have b2 := b 2
  have w1 : w64 (0 + 1) = 1 := by decide
  have w2 : w64 (1 + 1) = 2 := by decide
  have w3 : w64 (2 + 1) = 3 := by decide
  have n1 : w64 (0 + (cntBy l 0 : Int)) = (cntBy l 0 : Int) := by rw [w64_id (by omega) (by omega)]; omega
  have n2 : w64 ((cntBy l 0 : Int) + (cntBy l 1 : Int)) = (cntBy l 0 : Int) + (cntBy l 1 : Int) := w64_id (by omega) (by omega)
  have n3 : w64 ((cntBy l 0 : Int) + (cntBy l 1 : Int) + (cntBy l 2 : Int)) = (cntBy l 0 : Int) + (cntBy l 1 : Int) + (cntBy l 2 : Int) := w64_id (by omega) (by omega)
  rw [loopD_eq]
  simp only [show decide ((0 : Int) < 3) = true from rfl, cond_true, c0, w1, n1, Option.bind_some]
  rw [loopD_eq]
  simp only [show decide ((1 : Int) < 3) = true from rfl, cond_true, c1, w2, n2, Option.bind_some]
  rw [loopD_eq]
  simp only [show decide ((2 : Int) < 3) = true from rfl, cond_true, c2, w3, n3, Option.bind_some]
  refine loop_fin rfl ?_
  cases ok with
  | false =>
    simp only [cond_false]
    rw [loopD_eq]
    cases decide ((0 : Int) < (l.length : Int)) <;> rfl
  | true =>
    have hok := hok.symm
    rw [Bool.and_eq_true] at hok
    have hat := fun k x hx => allAt_get hok.1 k x hx
    have hv : ∀ (k : Nat) (x : GOp), l[k]? = some x → opB x = true := fun k x hx => by
      have := hat k x hx
      unfold logAt at this
      rw [Bool.and_eq_true] at this
      exact this.1
    have hby : ∀ x, x ∈ l → 0 ≤ x.by_ ∧ x.by_ ≤ 2 := fun x hx => by
      obtain ⟨k, hk⟩ := List.getElem?_of_mem hx
      exact (op_valid (hv k x hk)).2
    have hsum := cntBy_sum l hby
    have hne : ((cntBy l 0 : Int) + (cntBy l 1 : Int) + (cntBy l 2 : Int) != (l.length : Int)) = false := by
      simp; omega
    simp only [cond_true, hne, cond_false]
    have lt := (lastTime_val l hll).2
    obtain ⟨_, f2, _⟩ := foldMax l 0
    generalize l.foldl (fun s x => if x.time > s then x.time else s) 0 = v at *
    refine list_eq (fun (_ : Unit) (i : Nat) => ((l, true, (i : Int)) : (List GOp) × Bool × Int)) l (fun _ _ => True) true (fun i x _ hx _ => ?_) (fun _ _ => ?_) () trivial
    · have hi := (List.getElem?_eq_some_iff.1 hx).1
      have hxf := hf.list_mem x (List.mem_of_getElem? hx)
      have hxv := hv i x hx
      obtain ⟨hx1, hx2⟩ := op_valid hxv
      have hxt := f2 x (List.mem_of_getElem? hx)
      have s1 := stamp_ok hxv
      have d1 : decide (x.time * 3 + x.by_ > 999) = false := decide_eq_false (by omega)
      have d2 : decide (v < x.time) = false := decide_eq_false (by omega)
      simp only [dec_lt hx, cond_true, idx_nat, hx, Int.toNat_natCast, Option.bind_some, iIsValidOp_ok x hxf, hxv, Bool.not_true, cond_false, w_succ hx hll]
      by_cases h0 : (i : Int) > 0
      · have hy := List.getElem?_eq_getElem (show i - 1 < l.length by omega)
        have hyv := hv (i - 1) _ hy
        have s2 := stamp_ok hyv
        obtain ⟨hy1, hy2⟩ := op_valid hyv
        have hlog := hat i x hx
        rw [Nat.zero_add] at hlog
        unfold logAt at hlog
        rw [hxv, decide_eq_true h0, hy] at hlog
        simp only [Bool.true_and, Bool.not_true, Bool.false_or, Bool.or_eq_true, Bool.and_eq_true, decide_eq_true_eq, beq_iff_eq] at hlog
        have d3 : decide (l[i - 1].time * 3 + l[i - 1].by_ ≥ x.time * 3 + x.by_) = false := decide_eq_false (by omega)
        rw [w64_pred' hi hll h0]
        simp only [decide_eq_true h0, cond_true, idx_nat, hy, Int.toNat_natCast, Option.bind_some, s1, s2, d1, d2, d3, lt, cond_false]
        exact .inl ⟨(), trivial, trivial⟩
      · simp only [decide_eq_false h0, cond_false, s1, d1, d2, lt, Option.bind_some]
        exact .inl ⟨(), trivial, trivial⟩
    · exact ⟨_, by simp only [nlt_self, cond_false], rfl⟩
theorem before_irrefl (x : GOp) : (decide (x.time < x.time) || (true && decide (x.by_ < x.by_))) = false := by simp
theorem law_FnOps (a : List Int) (ha : FitD B47 (.list (.base .u8) a)) : FnOps a = some true := by
  refine big_then ha fun hl => ?_
  obtain ⟨l, e1, hl10, hlf⟩ := drawLog_ok a hl
  obtain ⟨x, y, e2, fx, fy⟩ := drawTwo_ok a hl
  have hf : FitD B20 (.list (.base .op) l) := mkList20 (by omega) hlf
  obtain ⟨v1, v2⟩ := validLog_eq3 l hf
  have tail := opsTail l hf _ rfl
  generalize (allAt (logAt l) l 0 && decide ((l.length : Int) ≤ 60)) = ok at *
  have anti : (decide (x.time < y.time) || ((x.time == y.time) && decide (x.by_ < y.by_))) = true → (decide (y.time < x.time) || ((y.time == x.time) && decide (y.by_ < x.by_))) = false := by
    intro h
    simp only [Bool.or_eq_true, Bool.and_eq_true, decide_eq_true_eq, beq_iff_eq] at h
    rw [Bool.eq_false_iff]
    intro h'
    simp only [Bool.or_eq_true, Bool.and_eq_true, decide_eq_true_eq, beq_iff_eq] at h'
    omega
  rw [e1, Option.bind_some, v2, Option.bind_some, v1, Option.bind_some, tail]
  simp only [e2, Option.bind_some, beq_self_eq_true, Bool.not_true, cond_false, iOpBefore_eq, sOpBefore_ok, before_irrefl, iEqualOp_ok x x fx, eqd_self]
  cases hb : (decide (x.time < y.time) || ((x.time == y.time) && decide (x.by_ < y.by_))) with
  | false => simp only [cond_false]
  | true =>
    simp only [cond_true, anti hb, cond_false]
end Go.Proofs.Ytmadjfnpidahnaa
