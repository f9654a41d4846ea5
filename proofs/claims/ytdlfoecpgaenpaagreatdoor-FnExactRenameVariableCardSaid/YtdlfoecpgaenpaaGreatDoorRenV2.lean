/- Plain laws: RenameVariable alike on both sides; the law FnExactRenameVariable. -/
import Derived.Test.YtdlfoecpgaenpaaGreatDoorRenV1
import Derived.Test.YtdlfoecpgaenpaaGreatDoorLawsA
set_option linter.unusedSimpArgs false
set_option linter.unusedVariables false
namespace Go.Proofs.YtdlfoecpgaenpaaGreatDoor
noncomputable section
open Go.Abs Go.Proofs
theorem validB_ok (a : Str) (hl : a.length <= 34359738368) : iIsValidName a = some (validB a) /\ sIsValidName a = some (validB a) := by
 obtain ⟨v, h⟩ := validName_ok a hl
 have e : validB a = v := by unfold validB; rw [h]; rfl
 rw [e]
 exact ⟨h, by rw [<- vName_alike a hl, h]⟩
def partsOf (cs : List GCell) : List GPart := (sCompileAll ⟨cs⟩).getD []
theorem parts_ok (cs : List GCell) (hl : cs.length <= 1048576) (h : ∀ c, c ∈ cs -> CellL c) : iCompileAll ⟨cs⟩ = some (partsOf cs) /\ sCompileAll ⟨cs⟩ = some (partsOf cs) /\ (∀ p, p ∈ partsOf cs -> PartP p) /\ (bookV cs = true -> (partsOf cs).length = cs.length) /\ (partsOf cs).length <= 8 := by
 obtain ⟨ps, h1, h2, h3, h4, h5⟩ := compile_alike cs hl h
 have e : partsOf cs = ps := by unfold partsOf; rw [h2]; rfl
 rw [e]
 exact ⟨h1, h2, h3, h4, h5⟩
def capsP (b c : Str) (p : GPart) : Bool := (p.kind == 2) && capB p b c
def usesP (c : Str) (p : GPart) : Bool := hasN p c
theorem any_take {α : Type} (f : α -> Bool) {xs : List α} {i : Nat} {x : α} (h : xs[i]? = some x) : (xs.take (i + 1)).any f = ((xs.take i).any f || f x) := by
 obtain ⟨hi, rfl⟩ := List.getElem?_eq_some_iff.1 h
 rw [List.take_succ_eq_append_getElem hi, List.any_append]
 simp
def nameC (c : Str) (cs : List GCell) (k : Nat) : List GCell := match cs[k]? with
 | some x => cs.set k ⟨x.id, x.version, x.kind, c, x.code, x.n⟩
 | none => cs
theorem nameC_len (c : Str) (cs : List GCell) (k : Nat) : (nameC c cs k).length = cs.length := by
 unfold nameC
 split
 ·rw [List.length_set]
 ·rfl
theorem nameC_ver {c : Str} {cs : List GCell} {k : Nat} (h : ∀ x, x ∈ cs -> 1 <= x.version /\ x.version <= 999) : ∀ x, x ∈ nameC c cs k -> 1 <= x.version /\ x.version <= 999 := by
 intro x hx
 unfold nameC at hx
 split at hx
 ·rename_i y hy
  rcases List.mem_or_eq_of_mem_set hx with hx | rfl
  ·exact h x hx
  ·exact h y (List.mem_of_getElem? hy)
 ·exact h x hx
def renP (cs : List GCell) (b c : Str) (d : Bool) : GNotebook × Int :=
 bif !(bookV cs) then (⟨cs⟩, 1) else bif !(validB b) then (⟨cs⟩, 1) else bif !(validB c) then (⟨cs⟩, 1) else bif (b == c) then (⟨cs⟩, 1)
 else bif decide (resOf (defsOf b 0 (partsOf cs)) < 0) then (⟨cs⟩, 2)
 else bif (decide (((defsOf c 0 (partsOf cs)).length : Int) > 0) || (partsOf cs).any (usesP c)) then (⟨cs⟩, 3)
 else bif (partsOf cs).any (capsP b c) then (⟨cs⟩, 4)
 else finC cs (loopC d b c 0 (partsOf cs) (nameC c cs (resOf (defsOf b 0 (partsOf cs))).toNat) false)
theorem iCopyN (cs : List GCell) (hl : cs.length <= 1048576) : iCopyNotebook ⟨cs⟩ = some ⟨cs⟩ := by
 unfold iCopyNotebook
 rw [gdp (by simp; omega)]; rfl
theorem sCopyN (cs : List GCell) (hl : cs.length <= 1048576) : sL17Copy ⟨cs⟩ = some ⟨cs⟩ := by
 unfold sL17Copy
 rw [gdp (by simp; omega)]; rfl
theorem iRenameIn_ok (cs : List GCell) (b c : Str) (d : Bool) (hl : cs.length <= 1048576) (h : ∀ c, c ∈ cs -> CellL c) (hb : b.length <= 34359738368) (hc : c.length <= 34359738368) : iRenameIn ⟨cs⟩ b c d = some (renP cs b c d) := by
 obtain ⟨p1, _, p3, p4, p5⟩ := parts_ok cs hl h
 have hv := iBook_ok cs hl h
 have vb := (validB_ok b hb).1
 have vc := (validB_ok c hc).1
 unfold iRenameIn renP
 simp only [p1, hv, vb, vc, Option.bind_some]
 cases hbk : bookV cs with
 | false => rfl
 | true =>
  have hlen := p4 hbk
  obtain ⟨h8, hcv⟩ := book_small h hbk
  cases validB b with
  | false => rfl
  | true =>
   cases validB c with
   | false => rfl
   | true =>
    cases (b == c) with
    | true => rfl
    | false =>
     have r1 := iRes_ok (partsOf cs) b (by omega)
     have d1 := iDef_ok (partsOf cs) c (by omega)
     simp only [Bool.not_true, cond_false, r1, d1, Option.bind_some]
     cases hneg : decide (resOf (defsOf b 0 (partsOf cs)) < 0) with
     | true => rfl
     | false =>
      obtain ⟨k, hk, hkl⟩ := res_lt (partsOf cs) b (by have := of_decide_eq_false hneg; omega)
      rw [hk, Int.toNat_natCast]
      simp only [cond_false]
      generalize hps : partsOf cs = ps at *
      generalize hD : decide (((defsOf c 0 ps).length : Int) > 0) = D
      refine of_ex (list_run (fun (s : Bool × Bool) (i : Nat) => ((b, c, d, cs, [], ps, (k : Int), s.1, s.2, ps, (ps.length : Int), (i : Int)) : Str × Str × Bool × (List GCell) × (List GCell) × (List GPart) × Int × Bool × Bool × (List GPart) × Int × Int)) ps (fun i s => s.1 = (D || (ps.take i).any (usesP c)) /\ s.2 = (ps.take i).any (capsP b c)) _ (fun i p s hx hI => .inl ?_) (fun s hI => ?_) (D, false) ⟨by simp, by simp⟩)
      ·obtain ⟨i1, i2⟩ := hI
       have hp := p3 p (List.mem_of_getElem? hx)
       obtain ⟨u1, u2, u3⟩ := uses_ok p hp
       obtain ⟨q, q1, q2, q3⟩ := index_ok p hp c
       refine ⟨(s.1 || usesP c p, s.2 || capsP b c p), ?_, by rw [any_take _ hx, i1, Bool.or_assoc], by rw [any_take _ hx, i2]⟩
       simp only [cnt_in hx, cond_true, idx_nat, hx, Option.bind_some, rePart_id, reExpr_eq, u1, q1, q2, cnt_up hx (by omega)]
       unfold capsP usesP
       cases hk2 : (p.kind == 2) with
       | false => cases s.1 <;> cases s.2 <;> simp
       | true =>
        have hc2 := (cap_ok p hp (eq_of_beq hk2) b c).1
        cases s.1 <;> cases s.2 <;> simp [hc2]
      ·obtain ⟨i1, i2⟩ := hI
       rw [List.take_length] at i1 i2
       have hlt : k < cs.length := by omega
       have hg := List.getElem?_eq_getElem hlt
       have hver : ∀ x, x ∈ cs -> 1 <= x.version /\ x.version <= 999 := fun x hx => ⟨(hcv x hx).2.v0, (hcv x hx).2.v9⟩
       have hL := iLoopC d b c hb hc cs ps p3 (by omega) (nameC c cs k) (by rw [nameC_len, hlen]) (nameC_ver hver)
       have hn : nameC c cs k = cs.set k ⟨cs[k].id, cs[k].version, cs[k].kind, c, cs[k].code, cs[k].n⟩ := by unfold nameC; rw [hg]
       refine ⟨_, ?_, rfl⟩
       simp only [cnt_out, cond_false, i1, i2, iCopyN cs hl, Option.bind_some, idx_nat, hg, Int.toNat_natCast]
       cases (D || ps.any (usesP c)) with
       | true => rfl
       | false =>
        cases ps.any (capsP b c) with
        | true => rfl
        | false =>
         simp only [cond_false]
         rw [hn] at hL ⊢
         show (loopD rvBI (b, c, d, cs, [], cs.set k ⟨cs[k].id, cs[k].version, cs[k].kind, c, cs[k].code, cs[k].n⟩, false, ps, (ps.length : Int), 0)).bind (fun r => some (Sum.inr r)) = _
         rw [hL]; rfl
theorem sCheck_ok (ps : List GPart) (b c : Str) (hl : ps.length <= 1048576) (h : ∀ p, p ∈ ps -> PartP p) : sL38Check ps b c = some (bif decide (resOf (defsOf b 0 ps) < 0) then 2 else bif (decide (((defsOf c 0 ps).length : Int) > 0) || ps.any (usesP c)) then 3 else bif ps.any (capsP b c) then 4 else 0) := by
 unfold sL38Check
 rw [sRes_ok ps b hl, Option.bind_some]
 cases decide (resOf (defsOf b 0 ps) < 0) with
 | true => rfl
 | false =>
  simp only [cond_false]
  have hd := sDef_ok ps c hl
  refine of_ex (list_run (fun (s : Bool) (i : Nat) => ((ps, b, c, (bif s then 4 else 0), (i : Int)) : (List GPart) × Str × Str × Int × Int)) ps (fun i s => (ps.take i).any (usesP c) = false /\ s = (ps.take i).any (capsP b c)) _ (fun i p s hx hI => ?_) (fun s hI => ?_) false ⟨by simp, by simp⟩)
  ·obtain ⟨i1, i2⟩ := hI
   have hp := h p (List.mem_of_getElem? hx)
   obtain ⟨u1, u2, u3⟩ := uses_ok p hp
   have q1 := has_ok p hp c
   simp only [cnt_in hx, cond_true, idx_nat, hx, Option.bind_some, rePart_id, reExpr_eq, u2, q1, cnt_up hx (by omega)]
   cases hh : hasN p c with
   | true =>
    refine .inr ⟨3, rfl, ?_⟩
    have : ps.any (usesP c) = true := List.any_eq_true.2 ⟨p, List.mem_of_getElem? hx, hh⟩
    rw [this, Bool.or_true]; rfl
   | false =>
    refine .inl ⟨s || capsP b c p, ?_, by rw [any_take _ hx, i1]; exact hh, by rw [any_take _ hx, i2]⟩
    unfold capsP
    cases hk2 : (p.kind == 2) with
    | false => cases s <;> simp
    | true =>
     have hc2 := (cap_ok p hp (eq_of_beq hk2) b c).2
     cases hcb : capB p b c <;> rw [hcb] at hc2 <;> cases s <;> simp [hc2]
  ·obtain ⟨i1, i2⟩ := hI
   rw [List.take_length] at i1 i2
   refine ⟨_, ?_, rfl⟩
   simp only [cnt_out, cond_false, hd, Option.bind_some, i1, i2, Bool.or_false]
   cases decide (((defsOf c 0 ps).length : Int) > 0) <;> cases ps.any (capsP b c) <;> rfl
theorem sRename_ok (cs : List GCell) (b c : Str) (hl : cs.length <= 1048576) (h : ∀ c, c ∈ cs -> CellL c) (hb : b.length <= 34359738368) (hc : c.length <= 34359738368) : sRenameVariable ⟨cs⟩ b c = some (renP cs b c true) := by
 obtain ⟨_, p2, p3, p4, p5⟩ := parts_ok cs hl h
 have hv := sBook_ok cs hl h
 have vb := (validB_ok b hb).2
 have vc := (validB_ok c hc).2
 unfold sRenameVariable renP
 simp only [sCopyN cs hl, hv, vb, vc, Option.bind_some]
 cases hbk : bookV cs with
 | false => rfl
 | true =>
  have hlen := p4 hbk
  obtain ⟨h8, hcv⟩ := book_small h hbk
  cases validB b with
  | false => rfl
  | true =>
   cases validB c with
   | false => rfl
   | true =>
    cases (b == c) with
    | true => rfl
    | false =>
     have r1 := sRes_ok (partsOf cs) b (by omega)
     have d1 := sCheck_ok (partsOf cs) b c (by omega) p3
     simp only [Bool.not_true, cond_false, p2, r1, d1, Option.bind_some]
     cases hneg : decide (resOf (defsOf b 0 (partsOf cs)) < 0) with
     | true => rfl
     | false =>
      obtain ⟨k, hk, hkl⟩ := res_lt (partsOf cs) b (by have := of_decide_eq_false hneg; omega)
      rw [hk, Int.toNat_natCast]
      generalize hps : partsOf cs = ps at *
      cases (decide (((defsOf c 0 ps).length : Int) > 0) || ps.any (usesP c)) with
      | true => rfl
      | false =>
       cases ps.any (capsP b c) with
       | true => rfl
       | false =>
        have hlt : k < cs.length := by omega
        have hg := List.getElem?_eq_getElem hlt
        have hver : ∀ x, x ∈ cs -> 1 <= x.version /\ x.version <= 999 := fun x hx => ⟨(hcv x hx).2.v0, (hcv x hx).2.v9⟩
        have hL := sLoopC b c hb hc cs hl ps p3 (by omega) (nameC c cs k) (by rw [nameC_len, hlen]) (nameC_ver hver)
        have hn : nameC c cs k = cs.set k ⟨cs[k].id, cs[k].version, cs[k].kind, c, cs[k].code, cs[k].n⟩ := by unfold nameC; rw [hg]
        have e0 : ((0 : Int) != 0) = false := rfl
        simp only [cond_false, e0, idx_nat, hg, Int.toNat_natCast, Option.bind_some]
        rw [hn] at hL ⊢
        exact hL
theorem finC_len {cs : List GCell} {n : Nat} {r : Option (List GCell × Bool)} (h : cs.length <= n) (hr : ∀ x, r = some x -> x.1.length <= n) : (finC cs r).1.cells.length <= n := by
 unfold finC
 split
 ·exact h
 ·exact h
 ·exact hr _ rfl
theorem loopC_len (d : Bool) (b c : Str) : ∀ (ps : List GPart) (i : Nat) (cs : List GCell) (full : Bool) (x : List GCell × Bool), loopC d b c i ps cs full = some x -> x.1.length = cs.length
 | [], i, cs, full, x, h => by cases h; rfl
 | p :: r, i, cs, full, x, h => by
  unfold loopC at h
  split at h
  ·split at h
   ·split at h
    ·have := loopC_len d b c r (i + 1) _ _ x h
     rw [List.length_set] at this
     exact this
    ·cases h
   ·cases h
  ·exact loopC_len d b c r (i + 1) cs full x h
theorem renP_len (cs : List GCell) (b c : Str) (d : Bool) : (renP cs b c d).1.cells.length <= cs.length := by
 have bb : ∀ (x : Bool) (p q : GNotebook × Int), p.1.cells.length <= cs.length -> q.1.cells.length <= cs.length -> (bif x then p else q).1.cells.length <= cs.length := by
  intro x p q hp hq
  cases x
  ·exact hq
  ·exact hp
 have self : ∀ n : Int, ((⟨cs⟩, n) : GNotebook × Int).1.cells.length <= cs.length := fun n => Nat.le_refl _
 unfold renP
 refine bb _ _ _ (self _) (bb _ _ _ (self _) (bb _ _ _ (self _) (bb _ _ _ (self _) (bb _ _ _ (self _) (bb _ _ _ (self _) (bb _ _ _ (self _) ?_))))))
 refine finC_len (Nat.le_refl _) fun x hx => ?_
 have := loopC_len _ _ _ _ _ _ _ _ hx
 rw [this, nameC_len]
 exact Nat.le_refl _
theorem rename_alike (cs : List GCell) (b c : Str) (hl : cs.length <= 1048576) (h : ∀ c, c ∈ cs -> CellL c) (hb : b.length <= 34359738368) (hc : c.length <= 34359738368) : iRenameVariable ⟨cs⟩ b c = some (renP cs b c true) /\ sRenameVariable ⟨cs⟩ b c = some (renP cs b c true) := by
 refine ⟨?_, sRename_ok cs b c hl h hb hc⟩
 have hlen := renP_len cs b c true
 unfold iRenameVariable
 rw [iRenameIn_ok cs b c true hl h hb hc, Option.bind_some]
 have := iCopyN (renP cs b c true).1.cells (by omega)
 have e : (⟨(renP cs b c true).1.cells⟩ : GNotebook) = (renP cs b c true).1 := by cases (renP cs b c true).1; rfl
 rw [e] at this
 rw [this]; rfl
end
end Go.Proofs.YtdlfoecpgaenpaaGreatDoor
