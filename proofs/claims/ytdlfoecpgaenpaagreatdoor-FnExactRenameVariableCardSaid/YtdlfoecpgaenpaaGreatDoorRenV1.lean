/- Plain laws: RenameVariable alike on both sides. -/
import Derived.Test.YtdlfoecpgaenpaaGreatDoorComp1
set_option linter.unusedSimpArgs false
set_option linter.unusedVariables false
namespace Go.Proofs.YtdlfoecpgaenpaaGreatDoor
noncomputable section
open Go.Abs Go.Proofs
def usesL (p : GPart) : List Str := (sUsesOf p).getD []
theorem uses_ok (p : GPart) (h : PartP p) : iUsesOf p = some (usesL p) /\ sUsesOf p = some (usesL p) /\ (usesL p).length <= 1000 := by
 have key : ∃ ys, iUsesOf p = some ys /\ sUsesOf p = some ys /\ ys.length <= 1000 := by
  unfold iUsesOf sUsesOf
  by_cases hk : p.kind = 2
  ·have e : (p.kind != 2) = false := by rw [hk]; rfl
   obtain ⟨hv, hw⟩ := h.expr hk
   obtain ⟨ys, h1, h2, _, h4, _⟩ := freeNames_alike p.expr (by omega)
   rw [e]
   simp only [cond_false, reExpr_eq, h1, h2, Option.bind_some]
   exact ⟨ys, rfl, rfl, by omega⟩
  ·have e : (p.kind != 2) = true := by simpa using hk
   rw [e]
   exact ⟨[], rfl, rfl, by simp⟩
 obtain ⟨ys, h1, h2, h3⟩ := key
 have e : usesL p = ys := by unfold usesL; rw [h2]; rfl
 rw [e]
 exact ⟨h1, h2, h3⟩
def hasN (p : GPart) (s : Str) : Bool := (usesL p).contains s
theorem index_ok (p : GPart) (h : PartP p) (s : Str) : ∃ q : Int, iIndexOf (usesL p) s = some q /\ decide (q >= 0) = hasN p s /\ decide (q < 0) = !(hasN p s) := by
 obtain ⟨_, _, h3⟩ := uses_ok p h
 refine ⟨posOf s 0 (usesL p), iIndexOf_eq (usesL p) s (by omega), ?_⟩
 have hp := posOf_neg s (usesL p) 0
 unfold hasN
 cases hc : (usesL p).contains s with
 | false =>
  have := hp.2 hc
  exact ⟨by rw [decide_eq_false (by omega)], by rw [decide_eq_true this]; rfl⟩
 | true =>
  have : ¬ posOf s 0 (usesL p) < 0 := fun hh => by rw [hp.1 hh] at hc; cases hc
  exact ⟨by rw [decide_eq_true (by omega)], by rw [decide_eq_false this]; rfl⟩
theorem has_ok (p : GPart) (h : PartP p) (s : Str) : sL1Has (usesL p) s = some (hasN p s) := by
 obtain ⟨_, _, h3⟩ := uses_ok p h
 exact sL1Has_eq (usesL p) s (by omega)
def capB (p : GPart) (b c : Str) : Bool := (sIsCaptured p.expr b c).getD false
theorem cap_ok (p : GPart) (h : PartP p) (hk : p.kind = 2) (b c : Str) : iIsCaptured p.expr b c = some (capB p b c) /\ sIsCaptured p.expr b c = some (capB p b c) := by
 obtain ⟨hv, hw⟩ := h.expr hk
 obtain ⟨v, h1, h2⟩ := captured_alike p.expr b c (by omega)
 have e : capB p b c = v := by unfold capB; rw [h2]; rfl
 rw [e]
 exact ⟨h1, h2⟩
def textOf (p : GPart) (b c : Str) : Str := (((sRenameFree p.expr b c).bind fun r => sFormatExpr r.1)).getD []
theorem text_ok (p : GPart) (h : PartP p) (hk : p.kind = 2) (b c : Str) (hb : b.length <= 34359738368) (hc : c.length <= 34359738368) :
  ∃ x v, iRenameFree p.expr b c = some (x, v) /\ sRenameFree p.expr b c = some (x, v) /\ iFormatExpr x = some (textOf p b c) /\ sFormatExpr x = some (textOf p b c) := by
 obtain ⟨hv, hw⟩ := h.expr hk
 obtain ⟨x, v, k1, k2, k3⟩ := renameFree_alike p.expr b c (by omega) hb hc
 obtain ⟨s, f1, f2, _⟩ := format_alike x (by omega)
 have e : textOf p b c = s := by unfold textOf; rw [k2]; simp only [Option.bind_some, f2]; rfl
 rw [e]
 exact ⟨x, v, k1, k2, f1, f2⟩
theorem has_kind (p : GPart) (s : Str) (h : hasN p s = true) : p.kind = 2 := by
 by_cases hk : p.kind = 2
 ·exact hk
 ·have e : (p.kind != 2) = true := by simpa using hk
  have : usesL p = [] := by unfold usesL sUsesOf; rw [e]; rfl
  unfold hasN at h
  rw [this] at h; cases h
def defsOf (b : Str) : Nat -> List GPart -> List Int
 | _, [] => []
 | i, p :: r => if ((p.kind != 1) && (p.name == b)) = true then (i : Int) :: defsOf b (i + 1) r else defsOf b (i + 1) r
theorem defsOf_drop (b : Str) {ps : List GPart} {i : Nat} {p : GPart} (h : ps[i]? = some p) : defsOf b i (ps.drop i) = if ((p.kind != 1) && (p.name == b)) = true then (i : Int) :: defsOf b (i + 1) (ps.drop (i + 1)) else defsOf b (i + 1) (ps.drop (i + 1)) := by
 obtain ⟨hi, rfl⟩ := List.getElem?_eq_some_iff.1 h
 rw [List.drop_eq_getElem_cons hi]
 rfl
theorem defsOf_mem (b : Str) : ∀ (ps : List GPart) (i : Nat) (k : Int), k ∈ defsOf b i ps -> (i : Int) <= k /\ k < ((i + ps.length : Nat) : Int)
 | [], i, k, h => by cases h
 | p :: r, i, k, h => by
  unfold defsOf at h
  split at h
  ·rcases List.mem_cons.1 h with rfl | h
   ·simp; omega
   ·have := defsOf_mem b r (i + 1) k h
    simp only [List.length_cons]; omega
  ·have := defsOf_mem b r (i + 1) k h
   simp only [List.length_cons]; omega
theorem defs_next {b : Str} {ps : List GPart} {i : Nat} {p : GPart} (hx : ps[i]? = some p) {out : List Int} (hI : out ++ defsOf b i (ps.drop i) = defsOf b 0 ps) :
  (if ((p.kind != 1) && (p.name == b)) = true then out ++ [(i : Int)] else out) ++ defsOf b (i + 1) (ps.drop (i + 1)) = defsOf b 0 ps := by
 rw [<- hI, defsOf_drop b hx]
 split
 ·rw [List.append_assoc]; rfl
 ·rfl
theorem len_next {c : Bool} {out : List Int} {i : Nat} (h : out.length <= i) : (if c = true then out ++ [(i : Int)] else out).length <= i + 1 := by
 split
 ·simp; omega
 ·omega
theorem iDef_ok (ps : List GPart) (b : Str) (hl : ps.length <= 1048576) : iDefiners ps b = some (defsOf b 0 ps) := by
 unfold iDefiners
 refine of_ex (list_run (fun (out : List Int) (i : Nat) => ((b, out, ps, (ps.length : Int), (i : Int)) : Str × (List Int) × (List GPart) × Int × Int)) ps (fun i out => out ++ defsOf b i (ps.drop i) = defsOf b 0 ps /\ out.length <= i) _ (fun i p out hx hI => .inl ?_) (fun out hI => ?_) [] ⟨rfl, Nat.le_refl _⟩)
 ·have hi := (List.getElem?_eq_some_iff.1 hx).1
  have hg : ∀ n : Int, gd (out.length + [n].length) = some () := fun n => gdp (by simp; omega)
  refine ⟨if ((p.kind != 1) && (p.name == b)) = true then out ++ [(i : Int)] else out, ?_, defs_next hx hI.1, len_next hI.2⟩
  simp only [cnt_in hx, cond_true, idx_nat, hx, Option.bind_some, hg, cnt_up hx (by omega)]
  cases (p.kind != 1) <;> cases (p.name == b) <;> rfl
 ·refine ⟨out, by simp only [cnt_out, cond_false], ?_⟩
  have := hI.1
  rw [List.drop_length] at this
  simpa [defsOf] using this
theorem sDef_ok (ps : List GPart) (b : Str) (hl : ps.length <= 1048576) : sDefiners ps b = some (defsOf b 0 ps) := by
 unfold sDefiners
 refine of_ex (list_run (fun (out : List Int) (i : Nat) => ((ps, b, out, (i : Int)) : (List GPart) × Str × (List Int) × Int)) ps (fun i out => out ++ defsOf b i (ps.drop i) = defsOf b 0 ps /\ out.length <= i) _ (fun i p out hx hI => .inl ?_) (fun out hI => ?_) [] ⟨rfl, Nat.le_refl _⟩)
 ·have hi := (List.getElem?_eq_some_iff.1 hx).1
  have hg : ∀ n : Int, gd (out.length + [n].length) = some () := fun n => gdp (by simp; omega)
  refine ⟨if ((p.kind != 1) && (p.name == b)) = true then out ++ [(i : Int)] else out, ?_, defs_next hx hI.1, len_next hI.2⟩
  simp only [cnt_in hx, cond_true, idx_nat, hx, Option.bind_some, hg, cnt_up hx (by omega)]
  cases (p.kind != 1) <;> cases (p.name == b) <;> rfl
 ·refine ⟨out, by simp only [cnt_out, cond_false], ?_⟩
  have := hI.1
  rw [List.drop_length] at this
  simpa [defsOf] using this
def resOf : List Int -> Int
 | [] => -1
 | [k] => k
 | _ => -2
theorem iRes_ok (ps : List GPart) (b : Str) (hl : ps.length <= 1048576) : iResolve ps b = some (resOf (defsOf b 0 ps)) := by
 unfold iResolve
 rw [iDef_ok ps b hl, Option.bind_some]
 cases defsOf b 0 ps with
 | nil => rfl
 | cons k r => cases r with
  | nil => rfl
  | cons k2 r =>
   have e1 : (((k :: k2 :: r).length : Int) == 0) = false := by simp; omega
   have e2 : (((k :: k2 :: r).length : Int) == 1) = false := by simp; omega
   rw [e1, e2]; rfl
theorem sRes_ok (ps : List GPart) (b : Str) (hl : ps.length <= 1048576) : sResolve ps b = some (resOf (defsOf b 0 ps)) := by
 unfold sResolve
 rw [sDef_ok ps b hl, Option.bind_some]
 cases defsOf b 0 ps with
 | nil => rfl
 | cons k r => cases r with
  | nil => rfl
  | cons k2 r =>
   have e1 : (((k :: k2 :: r).length : Int) == 0) = false := by simp; omega
   have e2 : (((k :: k2 :: r).length : Int) == 1) = false := by simp; omega
   rw [e1, e2]; rfl
theorem res_lt (ps : List GPart) (b : Str) (h : 0 <= resOf (defsOf b 0 ps)) : ∃ k : Nat, resOf (defsOf b 0 ps) = k /\ k < ps.length := by
 cases hd : defsOf b 0 ps with
 | nil => rw [hd] at h; exact absurd h (by decide)
 | cons k r => cases r with
  | nil =>
   have := defsOf_mem b ps 0 k (by rw [hd]; simp)
   exact ⟨k.toNat, by show k = _; omega, by omega⟩
  | cons k2 r => rw [hd] at h; exact absurd h (by show ¬ (0 : Int) <= -2; decide)
def updC (d : Bool) (t : Str) (x : GCell) : GCell := ⟨x.id, if d = true then x.version + 1 else x.version, x.kind, x.name, t, x.n⟩
def loopC (d : Bool) (b c : Str) : Nat -> List GPart -> List GCell -> Bool -> Option (List GCell × Bool)
 | _, [], cs, full => some (cs, full)
 | i, p :: r, cs, full => if hasN p b = true then
   (if (textOf p b c).length <= 120 then (match cs[i]? with
    | some x => loopC d b c (i + 1) r (cs.set i (updC d (textOf p b c) x)) (full || (d && decide (x.version >= 999)))
    | none => none)
   else none)
  else loopC d b c (i + 1) r cs full
theorem loopC_drop (d : Bool) (b c : Str) {ps : List GPart} {i : Nat} {p : GPart} (h : ps[i]? = some p) (cs : List GCell) (full : Bool) : loopC d b c i (ps.drop i) cs full = if hasN p b = true then
      (if (textOf p b c).length <= 120 then (match cs[i]? with
       | some x => loopC d b c (i + 1) (ps.drop (i + 1)) (cs.set i (updC d (textOf p b c) x)) (full || (d && decide (x.version >= 999)))
       | none => none)
      else none)
  else loopC d b c (i + 1) (ps.drop (i + 1)) cs full := by
 obtain ⟨hi, rfl⟩ := List.getElem?_eq_some_iff.1 h
 rw [List.drop_eq_getElem_cons hi]
 rfl
def finC (cs : List GCell) : Option (List GCell × Bool) -> GNotebook × Int
 | none => (⟨cs⟩, 5)
 | some (out, true) => (⟨cs⟩, 6)
 | some (out, false) => (⟨out⟩, 0)
abbrev RvI := Str × Str × Bool × (List GCell) × (List GCell) × (List GCell) × Bool × (List GPart) × Int × Int
abbrev RvS := Str × Str × (List GCell) × (List GCell) × (List GCell) × (List GPart) × Int × Int
def rvBI : RvI -> Option (RvI ⊕ (GNotebook × Int)) := (fun (x16 : Str × Str × Bool × (List GCell) × (List GCell) × (List GCell) × Bool × (List GPart) × Int × Int) =>
      bif (decide (x16.2.2.2.2.2.2.2.2.2 < x16.2.2.2.2.2.2.2.2.1)) then
       (idx x16.2.2.2.2.2.2.2.1 x16.2.2.2.2.2.2.2.2.2).bind fun e17 =>
       (iUsesOf (rePart e17)).bind fun r18 =>
       (iIndexOf r18 x16.1).bind fun r19 =>
       bif (decide (r19 < 0)) then
        some (.inl (x16.1, x16.2.1, x16.2.2.1, x16.2.2.2.1, x16.2.2.2.2.1, x16.2.2.2.2.2.1, x16.2.2.2.2.2.2.1, x16.2.2.2.2.2.2.2.1, x16.2.2.2.2.2.2.2.2.1, w64 (x16.2.2.2.2.2.2.2.2.2 + 1)))
       else
       (iRenameFree (reExpr e17.expr) x16.1 x16.2.1).bind fun r20 =>
       (iFormatExpr (reExpr r20.1)).bind fun r21 =>
       (idx x16.2.2.2.2.2.1 x16.2.2.2.2.2.2.2.2.2).bind fun _ =>
       (x16.2.2.2.2.2.1[x16.2.2.2.2.2.2.2.2.2.toNat]?).bind fun e23 =>
       (idx (x16.2.2.2.2.2.1.set x16.2.2.2.2.2.2.2.2.2.toNat (GCell.mk e23.id e23.version e23.kind e23.name r21 e23.n)) x16.2.2.2.2.2.2.2.2.2).bind fun _ =>
       ((x16.2.2.2.2.2.1.set x16.2.2.2.2.2.2.2.2.2.toNat (GCell.mk e23.id e23.version e23.kind e23.name r21 e23.n))[x16.2.2.2.2.2.2.2.2.2.toNat]?).bind fun e25 =>
       bif (decide ((e25.code.length : Int) > 120)) then
        some (.inr (GNotebook.mk x16.2.2.2.1, 5))
       else
       bif x16.2.2.1 then
        bif x16.2.2.2.2.2.2.1 then
         (idx (x16.2.2.2.2.2.1.set x16.2.2.2.2.2.2.2.2.2.toNat (GCell.mk e23.id e23.version e23.kind e23.name r21 e23.n)) x16.2.2.2.2.2.2.2.2.2).bind fun _ =>
         ((x16.2.2.2.2.2.1.set x16.2.2.2.2.2.2.2.2.2.toNat (GCell.mk e23.id e23.version e23.kind e23.name r21 e23.n))[x16.2.2.2.2.2.2.2.2.2.toNat]?).bind fun e27 =>
         (idx (x16.2.2.2.2.2.1.set x16.2.2.2.2.2.2.2.2.2.toNat (GCell.mk e23.id e23.version e23.kind e23.name r21 e23.n)) x16.2.2.2.2.2.2.2.2.2).bind fun _ =>
         ((x16.2.2.2.2.2.1.set x16.2.2.2.2.2.2.2.2.2.toNat (GCell.mk e23.id e23.version e23.kind e23.name r21 e23.n))[x16.2.2.2.2.2.2.2.2.2.toNat]?).bind fun e29 =>
         some (.inl (x16.1, x16.2.1, x16.2.2.1, x16.2.2.2.1, x16.2.2.2.2.1, (x16.2.2.2.2.2.1.set x16.2.2.2.2.2.2.2.2.2.toNat (GCell.mk e23.id e23.version e23.kind e23.name r21 e23.n)).set x16.2.2.2.2.2.2.2.2.2.toNat (GCell.mk e29.id (w64 (e27.version + 1)) e29.kind e29.name e29.code e29.n), true, x16.2.2.2.2.2.2.2.1, x16.2.2.2.2.2.2.2.2.1, w64 (x16.2.2.2.2.2.2.2.2.2 + 1)))
        else
         (idx (x16.2.2.2.2.2.1.set x16.2.2.2.2.2.2.2.2.2.toNat (GCell.mk e23.id e23.version e23.kind e23.name r21 e23.n)) x16.2.2.2.2.2.2.2.2.2).bind fun _ =>
         ((x16.2.2.2.2.2.1.set x16.2.2.2.2.2.2.2.2.2.toNat (GCell.mk e23.id e23.version e23.kind e23.name r21 e23.n))[x16.2.2.2.2.2.2.2.2.2.toNat]?).bind fun e31 =>
         (idx (x16.2.2.2.2.2.1.set x16.2.2.2.2.2.2.2.2.2.toNat (GCell.mk e23.id e23.version e23.kind e23.name r21 e23.n)) x16.2.2.2.2.2.2.2.2.2).bind fun _ =>
         ((x16.2.2.2.2.2.1.set x16.2.2.2.2.2.2.2.2.2.toNat (GCell.mk e23.id e23.version e23.kind e23.name r21 e23.n))[x16.2.2.2.2.2.2.2.2.2.toNat]?).bind fun e33 =>
         (idx (x16.2.2.2.2.2.1.set x16.2.2.2.2.2.2.2.2.2.toNat (GCell.mk e23.id e23.version e23.kind e23.name r21 e23.n)) x16.2.2.2.2.2.2.2.2.2).bind fun _ =>
         ((x16.2.2.2.2.2.1.set x16.2.2.2.2.2.2.2.2.2.toNat (GCell.mk e23.id e23.version e23.kind e23.name r21 e23.n))[x16.2.2.2.2.2.2.2.2.2.toNat]?).bind fun e35 =>
         some (.inl (x16.1, x16.2.1, x16.2.2.1, x16.2.2.2.1, x16.2.2.2.2.1, (x16.2.2.2.2.2.1.set x16.2.2.2.2.2.2.2.2.2.toNat (GCell.mk e23.id e23.version e23.kind e23.name r21 e23.n)).set x16.2.2.2.2.2.2.2.2.2.toNat (GCell.mk e35.id (w64 (e33.version + 1)) e35.kind e35.name e35.code e35.n), (decide (e31.version >= 999)), x16.2.2.2.2.2.2.2.1, x16.2.2.2.2.2.2.2.2.1, w64 (x16.2.2.2.2.2.2.2.2.2 + 1)))
       else
        some (.inl (x16.1, x16.2.1, x16.2.2.1, x16.2.2.2.1, x16.2.2.2.2.1, x16.2.2.2.2.2.1.set x16.2.2.2.2.2.2.2.2.2.toNat (GCell.mk e23.id e23.version e23.kind e23.name r21 e23.n), x16.2.2.2.2.2.2.1, x16.2.2.2.2.2.2.2.1, x16.2.2.2.2.2.2.2.2.1, w64 (x16.2.2.2.2.2.2.2.2.2 + 1)))
      else
       (
        bif x16.2.2.2.2.2.2.1 then
         some (GNotebook.mk x16.2.2.2.1, 6)
        else
         some (GNotebook.mk x16.2.2.2.2.2.1, 0)
       ).bind fun r => some (.inr r)
  )
def rvBS : RvS -> Option (RvS ⊕ (GNotebook × Int)) := (fun (x10 : Str × Str × (List GCell) × (List GCell) × (List GCell) × (List GPart) × Int × Int) =>
      bif (decide (x10.2.2.2.2.2.2.2 < (x10.2.2.2.2.2.1.length : Int))) then
       (idx x10.2.2.2.2.2.1 x10.2.2.2.2.2.2.2).bind fun _ =>
       (x10.2.2.2.2.2.1[x10.2.2.2.2.2.2.2.toNat]?).bind fun e12 =>
       (sUsesOf (rePart e12)).bind fun r13 =>
       (sL1Has r13 x10.1).bind fun r14 =>
       bif (!r14) then
        some (.inl (x10.1, x10.2.1, x10.2.2.1, x10.2.2.2.1, x10.2.2.2.2.1, x10.2.2.2.2.2.1, x10.2.2.2.2.2.2.1, w64 (x10.2.2.2.2.2.2.2 + 1)))
       else
       (idx x10.2.2.2.2.2.1 x10.2.2.2.2.2.2.2).bind fun _ =>
       (x10.2.2.2.2.2.1[x10.2.2.2.2.2.2.2.toNat]?).bind fun e16 =>
       (sRenameFree (reExpr e16.expr) x10.1 x10.2.1).bind fun r17 =>
       (sFormatExpr (reExpr r17.1)).bind fun r18 =>
       (idx x10.2.2.2.2.1 x10.2.2.2.2.2.2.2).bind fun _ =>
       (x10.2.2.2.2.1[x10.2.2.2.2.2.2.2.toNat]?).bind fun e20 =>
       (idx (x10.2.2.2.2.1.set x10.2.2.2.2.2.2.2.toNat (GCell.mk e20.id e20.version e20.kind e20.name r18 e20.n)) x10.2.2.2.2.2.2.2).bind fun _ =>
       ((x10.2.2.2.2.1.set x10.2.2.2.2.2.2.2.toNat (GCell.mk e20.id e20.version e20.kind e20.name r18 e20.n))[x10.2.2.2.2.2.2.2.toNat]?).bind fun e22 =>
       bif (decide ((e22.code.length : Int) > 120)) then
        (sL17Copy (GNotebook.mk x10.2.2.1)).bind fun r23 =>
        some (.inr (r23, 5))
       else
       (idx (x10.2.2.2.2.1.set x10.2.2.2.2.2.2.2.toNat (GCell.mk e20.id e20.version e20.kind e20.name r18 e20.n)) x10.2.2.2.2.2.2.2).bind fun _ =>
       ((x10.2.2.2.2.1.set x10.2.2.2.2.2.2.2.toNat (GCell.mk e20.id e20.version e20.kind e20.name r18 e20.n))[x10.2.2.2.2.2.2.2.toNat]?).bind fun e25 =>
       bif (e25.version == 999) then
        (idx (x10.2.2.2.2.1.set x10.2.2.2.2.2.2.2.toNat (GCell.mk e20.id e20.version e20.kind e20.name r18 e20.n)) x10.2.2.2.2.2.2.2).bind fun _ =>
        ((x10.2.2.2.2.1.set x10.2.2.2.2.2.2.2.toNat (GCell.mk e20.id e20.version e20.kind e20.name r18 e20.n))[x10.2.2.2.2.2.2.2.toNat]?).bind fun e27 =>
        (idx (x10.2.2.2.2.1.set x10.2.2.2.2.2.2.2.toNat (GCell.mk e20.id e20.version e20.kind e20.name r18 e20.n)) x10.2.2.2.2.2.2.2).bind fun _ =>
        ((x10.2.2.2.2.1.set x10.2.2.2.2.2.2.2.toNat (GCell.mk e20.id e20.version e20.kind e20.name r18 e20.n))[x10.2.2.2.2.2.2.2.toNat]?).bind fun e29 =>
        some (.inl (x10.1, x10.2.1, x10.2.2.1, x10.2.2.2.1, (x10.2.2.2.2.1.set x10.2.2.2.2.2.2.2.toNat (GCell.mk e20.id e20.version e20.kind e20.name r18 e20.n)).set x10.2.2.2.2.2.2.2.toNat (GCell.mk e29.id (w64 (e27.version + 1)) e29.kind e29.name e29.code e29.n), x10.2.2.2.2.2.1, 6, w64 (x10.2.2.2.2.2.2.2 + 1)))
       else
        (idx (x10.2.2.2.2.1.set x10.2.2.2.2.2.2.2.toNat (GCell.mk e20.id e20.version e20.kind e20.name r18 e20.n)) x10.2.2.2.2.2.2.2).bind fun _ =>
        ((x10.2.2.2.2.1.set x10.2.2.2.2.2.2.2.toNat (GCell.mk e20.id e20.version e20.kind e20.name r18 e20.n))[x10.2.2.2.2.2.2.2.toNat]?).bind fun e31 =>
        (idx (x10.2.2.2.2.1.set x10.2.2.2.2.2.2.2.toNat (GCell.mk e20.id e20.version e20.kind e20.name r18 e20.n)) x10.2.2.2.2.2.2.2).bind fun _ =>
        ((x10.2.2.2.2.1.set x10.2.2.2.2.2.2.2.toNat (GCell.mk e20.id e20.version e20.kind e20.name r18 e20.n))[x10.2.2.2.2.2.2.2.toNat]?).bind fun e33 =>
        some (.inl (x10.1, x10.2.1, x10.2.2.1, x10.2.2.2.1, (x10.2.2.2.2.1.set x10.2.2.2.2.2.2.2.toNat (GCell.mk e20.id e20.version e20.kind e20.name r18 e20.n)).set x10.2.2.2.2.2.2.2.toNat (GCell.mk e33.id (w64 (e31.version + 1)) e33.kind e33.name e33.code e33.n), x10.2.2.2.2.2.1, x10.2.2.2.2.2.2.1, w64 (x10.2.2.2.2.2.2.2 + 1)))
      else
       (
        bif (x10.2.2.2.2.2.2.1 != 0) then
         (sL17Copy (GNotebook.mk x10.2.2.1)).bind fun r34 =>
         some (r34, x10.2.2.2.2.2.2.1)
        else
         some (GNotebook.mk x10.2.2.2.2.1, 0)
       ).bind fun r => some (.inr r)
  )
theorem get_set {α : Type} (xs : List α) (i : Nat) (x : α) (h : i < xs.length) : (xs.set i x)[i]? = some x := by
 rw [List.getElem?_set_self h]
theorem iLoopC (d : Bool) (b c : Str) (hb : b.length <= 34359738368) (hc : c.length <= 34359738368) (cs : List GCell) (ps : List GPart) (hps : ∀ p, p ∈ ps -> PartP p) (hl : ps.length <= 1048576) (out0 : List GCell) (h0 : out0.length = ps.length) (hv : ∀ x, x ∈ out0 -> 1 <= x.version /\ x.version <= 999) :
  loopD rvBI (b, c, d, cs, [], out0, false, ps, (ps.length : Int), 0) = some (finC cs (loopC d b c 0 ps out0 false)) := by
 refine of_ex (list_run (g := rvBI) (fun (s : List GCell × Bool) (i : Nat) => ((b, c, d, cs, [], s.1, s.2, ps, (ps.length : Int), (i : Int)) : RvI)) ps (fun i s => s.1.length = ps.length /\ loopC d b c i (ps.drop i) s.1 s.2 = loopC d b c 0 ps out0 false /\ ∀ j x, i <= j -> s.1[j]? = some x -> 1 <= x.version /\ x.version <= 999) _ (fun i p s hx hI => ?_) (fun s hI => ?_) (out0, false) ⟨h0, rfl, fun j x _ hx => hv x (List.mem_of_getElem? hx)⟩)
 ·obtain ⟨i1, i2, i3⟩ := hI
  have hp := hps p (List.mem_of_getElem? hx)
  have hi := (List.getElem?_eq_some_iff.1 hx).1
  obtain ⟨u1, u2, u3⟩ := uses_ok p hp
  obtain ⟨q, q1, q2, q3⟩ := index_ok p hp b
  rw [loopC_drop d b c hx] at i2
  simp only [rvBI, cnt_in hx, cond_true, idx_nat, hx, Option.bind_some, rePart_id, u1, q1, q3, cnt_up hx (by omega)]
  cases hh : hasN p b with
  | false =>
   rw [hh] at i2
   refine .inl ⟨s, rfl, i1, ?_, fun j x hj hx => i3 j x (by omega) hx⟩
   simpa using i2
  | true =>
   rw [hh, if_pos rfl] at i2
   have hlt : i < s.1.length := by omega
   have hg := List.getElem?_eq_getElem hlt
   obtain ⟨x, v, k1, k2, k3, k4⟩ := text_ok p hp (has_kind p b hh) b c hb hc
   have hs1 : ∀ y : GCell, (s.1.set i y)[i]? = some y := fun y => get_set s.1 i y hlt
   rw [hg] at i2
   have hv9 := i3 i _ (Nat.le_refl _) hg
   simp only [Bool.not_true, cond_false, reExpr_eq, k1, k3, hg, Int.toNat_natCast, hs1, Option.bind_some]
   by_cases ht : (textOf p b c).length <= 120
   ·have e : decide (((textOf p b c).length : Int) > 120) = false := by simp; omega
    rw [if_pos ht] at i2
    rw [e]
    simp only [cond_false]
    have keep : ∀ (y : GCell) (j : Nat) (x : GCell), i + 1 <= j -> (s.1.set i y)[j]? = some x -> 1 <= x.version /\ x.version <= 999 := fun y j x hj hx => by
     rw [List.getElem?_set_ne (by omega)] at hx
     exact i3 j x (by omega) hx
    have hw : w64 (s.1[i].version + 1) = s.1[i].version + 1 := w64_id (by omega) (by omega)
    refine .inl ⟨(s.1.set i (updC d (textOf p b c) s.1[i]), s.2 || (d && decide (s.1[i].version >= 999))), ?_, by simp [i1], i2, fun j x hj hx => keep _ j x hj hx⟩
    cases d with
    | false =>
     simp only [cond_false, Bool.false_and, Bool.or_false]
     rfl
    | true =>
     have hset : ∀ y z : GCell, (s.1.set i y).set i z = s.1.set i z := fun y z => by rw [List.set_set]
     simp only [cond_true, Bool.true_and, hw, hset]
     cases s.2 <;> rfl
   ·have e : decide (((textOf p b c).length : Int) > 120) = true := by simp; omega
    rw [if_neg ht] at i2
    rw [e]
    exact .inr ⟨_, rfl, by rw [<- i2]; rfl⟩
 ·obtain ⟨i1, i2, i3⟩ := hI
  rw [List.drop_length] at i2
  refine ⟨finC cs (some s), ?_, by rw [<- i2]; rfl⟩
  obtain ⟨out, full⟩ := s
  simp only [rvBI, cnt_out, cond_false]
  cases full <;> rfl
theorem sLoopC (b c : Str) (hb : b.length <= 34359738368) (hc : c.length <= 34359738368) (cs : List GCell) (hcs : cs.length <= 1048576) (ps : List GPart) (hps : ∀ p, p ∈ ps -> PartP p) (hl : ps.length <= 1048576) (out0 : List GCell) (h0 : out0.length = ps.length) (hv : ∀ x, x ∈ out0 -> 1 <= x.version /\ x.version <= 999) :
  loopD rvBS (b, c, cs, [], out0, ps, 0, 0) = some (finC cs (loopC true b c 0 ps out0 false)) := by
 have hcopy : sL17Copy ⟨cs⟩ = some ⟨cs⟩ := by
  unfold sL17Copy
  rw [gdp (by simp; omega)]; rfl
 refine of_ex (list_run (g := rvBS) (fun (s : List GCell × Bool) (i : Nat) => ((b, c, cs, [], s.1, ps, (if s.2 = true then 6 else 0), (i : Int)) : RvS)) ps (fun i s => s.1.length = ps.length /\ loopC true b c i (ps.drop i) s.1 s.2 = loopC true b c 0 ps out0 false /\ ∀ j x, i <= j -> s.1[j]? = some x -> 1 <= x.version /\ x.version <= 999) _ (fun i p s hx hI => ?_) (fun s hI => ?_) (out0, false) ⟨h0, rfl, fun j x _ hx => hv x (List.mem_of_getElem? hx)⟩)
 ·obtain ⟨i1, i2, i3⟩ := hI
  have hp := hps p (List.mem_of_getElem? hx)
  have hi := (List.getElem?_eq_some_iff.1 hx).1
  obtain ⟨u1, u2, u3⟩ := uses_ok p hp
  have q1 := has_ok p hp b
  rw [loopC_drop true b c hx] at i2
  simp only [rvBS, cnt_in hx, cond_true, idx_nat, hx, Option.bind_some, Int.toNat_natCast, rePart_id, u2, q1, cnt_up hx (by omega)]
  cases hh : hasN p b with
  | false =>
   rw [hh] at i2
   refine .inl ⟨s, rfl, i1, ?_, fun j x hj hx => i3 j x (by omega) hx⟩
   simpa using i2
  | true =>
   rw [hh, if_pos rfl] at i2
   have hlt : i < s.1.length := by omega
   have hg := List.getElem?_eq_getElem hlt
   obtain ⟨x, v, k1, k2, k3, k4⟩ := text_ok p hp (has_kind p b hh) b c hb hc
   have hs1 : ∀ y : GCell, (s.1.set i y)[i]? = some y := fun y => get_set s.1 i y hlt
   rw [hg] at i2
   have hv9 := i3 i _ (Nat.le_refl _) hg
   simp only [Bool.not_true, cond_false, reExpr_eq, k2, k4, hg, Int.toNat_natCast, hs1, Option.bind_some]
   by_cases ht : (textOf p b c).length <= 120
   ·have e : decide (((textOf p b c).length : Int) > 120) = false := by simp; omega
    rw [if_pos ht] at i2
    rw [e]
    simp only [cond_false]
    have keep : ∀ (y : GCell) (j : Nat) (x : GCell), i + 1 <= j -> (s.1.set i y)[j]? = some x -> 1 <= x.version /\ x.version <= 999 := fun y j x hj hx => by
     rw [List.getElem?_set_ne (by omega)] at hx
     exact i3 j x (by omega) hx
    have hw : w64 (s.1[i].version + 1) = s.1[i].version + 1 := w64_id (by omega) (by omega)
    have hset : ∀ y z : GCell, (s.1.set i y).set i z = s.1.set i z := fun y z => by rw [List.set_set]
    refine .inl ⟨(s.1.set i (updC true (textOf p b c) s.1[i]), s.2 || (true && decide (s.1[i].version >= 999))), ?_, by simp [i1], i2, fun j x hj hx => keep _ j x hj hx⟩
    by_cases h9 : s.1[i].version = 999
    ·have e9 : (s.1[i].version == 999) = true := by simp [h9]
     have d9 : decide (s.1[i].version >= 999) = true := by simp; omega
     simp only [e9, d9, cond_true, Bool.true_and, Bool.or_true, hw, hset]
     rfl
    ·have e9 : (s.1[i].version == 999) = false := by simpa using h9
     have d9 : decide (s.1[i].version >= 999) = false := by simp; omega
     simp only [e9, d9, cond_false, Bool.true_and, Bool.or_false, hw, hset]
     rfl
   ·have e : decide (((textOf p b c).length : Int) > 120) = true := by simp; omega
    rw [if_neg ht] at i2
    rw [e]
    simp only [cond_true, hcopy, Option.bind_some]
    exact .inr ⟨_, rfl, by rw [<- i2]; rfl⟩
 ·obtain ⟨i1, i2, i3⟩ := hI
  rw [List.drop_length] at i2
  refine ⟨finC cs (some s), ?_, by rw [<- i2]; rfl⟩
  obtain ⟨out, full⟩ := s
  simp only [rvBS, cnt_out, cond_false, hcopy, Option.bind_some]
  cases full <;> rfl
end
end Go.Proofs.YtdlfoecpgaenpaaGreatDoor
