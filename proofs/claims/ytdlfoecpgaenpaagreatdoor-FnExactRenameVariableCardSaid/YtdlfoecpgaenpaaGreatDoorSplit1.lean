/- Plain laws: texts split at a separator: the library's strings.Split against the reference's loops. -/
import Derived.Test.YtdlfoecpgaenpaaGreatDoorNum3
import Derived.Lib.SplitLaws
set_option linter.unusedSimpArgs false
set_option linter.unusedVariables false
namespace Go.Proofs.YtdlfoecpgaenpaaGreatDoor
open Go.Abs Go.Proofs
theorem split_hit {s sub : Str} {i : Nat} (hsub : sub ≠ []) (h : Go.Lib.NoOcc s sub i) (hi : i <= s.length) (ho : Go.Lib.occAt s sub i = true) : Go.Lib.split s sub = s.take i :: Go.Lib.split (s.drop (i + sub.length)) sub := by
 have hx := Go.Lib.index_hit h hi ho
 have hc := Go.Lib.count_hit hsub hx
 unfold Go.Lib.split
 rw [hc, Nat.add_comm 1]
 show (if Go.Lib.index s sub == -1 then [s] else s.take ((Go.Lib.index s sub).toNat + 0) :: Go.Lib.splitK sub 0 _ (s.drop ((Go.Lib.index s sub).toNat + sub.length))) = _
 rw [hx]
 have e : ((i : Int) == -1) = false := by simp
 rw [e]
 simp
theorem split_none {s sub : Str} (h : ∀ j, j <= s.length -> Go.Lib.occAt s sub j = false) : Go.Lib.split s sub = [s] := by
 have hx := Go.Lib.index_none h
 have hc := Go.Lib.count_miss hx
 unfold Go.Lib.split
 rw [hc]
 rfl
theorem occAt_one (s : Str) (c : UInt8) (i : Nat) : Go.Lib.occAt s [c] i = (s[i]? == some c) := by
 unfold Go.Lib.occAt
 cases h : s.drop i with
 | nil =>
  have : s[i]? = none := List.getElem?_eq_none (List.drop_eq_nil_iff.1 h)
  rw [this]; rfl
 | cons x r =>
  have : s[i]? = some x := by
   have := congrArg (·[0]?) h
   simpa using this
  rw [this]
  show ((c == x) && true) = (x == c)
  rw [Bool.and_true]
  by_cases e : c = x
  ·subst e; rfl
  ·have e1 : (c == x) = false := by simpa using e
   have e2 : (x == c) = false := by simpa using fun h => e h.symm
   rw [e1, e2]
theorem occAt_two (s : Str) (c d : UInt8) (i : Nat) : Go.Lib.occAt s [c, d] i = ((s[i]? == some c) && (s[i + 1]? == some d)) := by
 have h1 := occAt_one s c i
 have h2 := occAt_one s d (i + 1)
 unfold Go.Lib.occAt at h1 h2 ⊢
 rw [<- h1, <- h2]
 cases h : s.drop i with
 | nil =>
  have : s.drop (i + 1) = [] := List.drop_eq_nil_iff.2 (by have := List.drop_eq_nil_iff.1 h; omega)
  rw [this]; rfl
 | cons x r =>
  have : s.drop (i + 1) = r := by
   have := congrArg List.tail h
   simpa using this
  rw [this]
  show ((c == x) && [d].isPrefixOf r) = (((c == x) && true) && [d].isPrefixOf r)
  rw [Bool.and_true]
theorem occAt_drop (s sub : Str) (f j : Nat) : Go.Lib.occAt (s.drop f) sub j = Go.Lib.occAt s sub (f + j) := by
 unfold Go.Lib.occAt
 rw [List.drop_drop]
abbrev SpX := Str × Int × (List Str) × Int × Int
noncomputable def spBody : SpX -> Option (SpX ⊕ List Str) := (fun (x1 : Str × Int × (List Str) × Int × Int) =>
      bif (decide (x1.2.2.2.2 <= (x1.1.length : Int))) then
       bif (x1.2.2.2.2 == (x1.1.length : Int)) then
        (eff.cutL x1.1 (some x1.2.2.2.1) (some x1.2.2.2.2)).bind fun r2 =>
        (gd (x1.2.2.1.length + ([r2] : List Str).length)).bind fun _ =>
        some (.inl (x1.1, x1.2.1, x1.2.2.1 ++ ([r2] : List Str), w64 (x1.2.2.2.2 + 1), w64 (x1.2.2.2.2 + 1)))
       else
        (idx x1.1 x1.2.2.2.2).bind fun c3 =>
        bif ((c3.toNat : Int) == x1.2.1) then
         (eff.cutL x1.1 (some x1.2.2.2.1) (some x1.2.2.2.2)).bind fun r4 =>
         (gd (x1.2.2.1.length + ([r4] : List Str).length)).bind fun _ =>
         some (.inl (x1.1, x1.2.1, x1.2.2.1 ++ ([r4] : List Str), w64 (x1.2.2.2.2 + 1), w64 (x1.2.2.2.2 + 1)))
        else
         some (.inl (x1.1, x1.2.1, x1.2.2.1, x1.2.2.2.1, w64 (x1.2.2.2.2 + 1)))
      else
       some (.inr (x1.2.2.1))
  )
theorem sSplit_ok (s : Str) (c : UInt8) (hl : s.length <= 1048576) : sSplitByte s (c.toNat : Int) = some (Go.Lib.split s [c]) := by
 have key : ∀ (k i f : Nat) (out : List Str), s.length + 1 = i + k -> f <= i -> i <= s.length -> out.length <= i -> (∀ j, f <= j -> j < i -> Go.Lib.occAt s [c] j = false) ->
   loopD spBody (s, (c.toNat : Int), out, (f : Int), (i : Int)) = some (out ++ Go.Lib.split (s.drop f) [c]) := by
  intro k
  induction k with
  | zero => intro i f out h1 _ h2; omega
  | succ k ih =>
   intro i f out hk hf hi ho hno
   have d1 : decide ((i : Int) <= (s.length : Int)) = true := by simp; omega
   have hw : w64 ((i : Int) + 1) = ((i + 1 : Nat) : Int) := by rw [w64_id (by omega) (by omega)]; omega
   have hg : ∀ x : Str, gd (out.length + ([x] : List Str).length) = some () := fun x => gdp (by simp; omega)
   have hcut := cut_mid s f i hf hi
   have hNo : Go.Lib.NoOcc (s.drop f) [c] (i - f) := fun j hj => by rw [occAt_drop]; exact hno (f + j) (by omega) (by omega)
   rw [loopD_eq]
   by_cases he : i = s.length
   ·subst he
    have d2 : ((s.length : Int) == (s.length : Int)) = true := by simp
    have hs : spBody (s, (c.toNat : Int), out, (f : Int), (s.length : Int)) = some (.inl (s, (c.toNat : Int), out ++ [(s.take s.length).drop f], ((s.length + 1 : Nat) : Int), ((s.length + 1 : Nat) : Int))) := by
     simp only [spBody, d1, d2, cond_true, hcut, Option.bind_some, hg, hw]
    rw [hs]
    simp only
    rw [loopD_eq]
    have d3 : decide (((s.length + 1 : Nat) : Int) <= (s.length : Int)) = false := by simp; omega
    have hs2 : spBody (s, (c.toNat : Int), out ++ [(s.take s.length).drop f], ((s.length + 1 : Nat) : Int), ((s.length + 1 : Nat) : Int)) = some (.inr (out ++ [(s.take s.length).drop f])) := by
     simp only [spBody, d3, cond_false]
    rw [hs2]
    simp only
    rw [split_none (s := s.drop f) (sub := [c]) fun j hj => ?_, List.take_length]
    rw [occAt_drop]
    by_cases hj2 : f + j < s.length
    ·exact hno (f + j) (by omega) hj2
    ·rw [occAt_one, List.getElem?_eq_none (by omega)]; rfl
   ·have hlt : i < s.length := by omega
    have d2 : ((i : Int) == (s.length : Int)) = false := by simp; omega
    have hx := List.getElem?_eq_getElem hlt
    by_cases hc : s[i] = c
    ·have d3 : ((s[i].toNat : Int) == (c.toNat : Int)) = true := by rw [hc]; simp
     have hs : spBody (s, (c.toNat : Int), out, (f : Int), (i : Int)) = some (.inl (s, (c.toNat : Int), out ++ [(s.take i).drop f], ((i + 1 : Nat) : Int), ((i + 1 : Nat) : Int))) := by
      simp only [spBody, d1, d2, d3, cond_true, cond_false, idx_nat, hx, hcut, Option.bind_some, hg, hw]
     rw [hs]
     simp only
     rw [ih (i + 1) (i + 1) (out ++ [(s.take i).drop f]) (by omega) (Nat.le_refl _) (by omega) (by simp; omega) (fun j h1 h2 => by omega)]
     rw [split_hit (s := s.drop f) (sub := [c]) (i := i - f) (by simp) hNo (by simp; omega) (by rw [occAt_drop, occAt_one, show f + (i - f) = i by omega, hx, hc]; simp)]
     rw [List.drop_drop, List.drop_take, show f + (i - f + [c].length) = i + 1 by simp; omega]
     simp
    ·have d3 : ((s[i].toNat : Int) == (c.toNat : Int)) = false := by
      have : ¬ s[i].toNat = c.toNat := fun h => hc (UInt8.toNat_inj.1 h)
      simp; omega
     have hs : spBody (s, (c.toNat : Int), out, (f : Int), (i : Int)) = some (.inl (s, (c.toNat : Int), out, (f : Int), ((i + 1 : Nat) : Int))) := by
      simp only [spBody, d1, d2, d3, cond_true, cond_false, idx_nat, hx, Option.bind_some, hw]
     rw [hs]
     simp only
     refine ih (i + 1) f out (by omega) (by omega) (by omega) (by omega) fun j h1 h2 => ?_
     by_cases hj : j < i
     ·exact hno j h1 hj
     ·have : j = i := by omega
      subst this
      rw [occAt_one, hx]
      simpa using hc
 have := key (s.length + 1) 0 0 [] (by omega) (Nat.le_refl _) (Nat.zero_le _) (Nat.zero_le _) (fun j _ h => by omega)
 show loopD spBody (s, (c.toNat : Int), [], 0, 0) = _
 simpa using this
theorem iSplit_ok (s : Str) (c : UInt8) (hl : s.length <= 1048576) : iSplitByte s (c.toNat : Int) = some (Go.Lib.split s [c]) := by
 unfold iSplitByte libSplit
 have e : bytesOf [(c.toNat : Int)] = [c] := bytesOf_octs [c]
 rw [e, if_pos ⟨by omega, by simp⟩]
 rfl
abbrev PaX := Str × (List Str) × Int × Int
noncomputable def paBody : PaX -> Option (PaX ⊕ List Str) := (fun (x1 : Str × (List Str) × Int × Int) =>
      bif (decide ((w64 (x1.2.2.2 + 1)) < (x1.1.length : Int))) then
       (idx x1.1 x1.2.2.2).bind fun c2 =>
       bif ((c2.toNat : Int) == 59) then
        (idx x1.1 (w64 (x1.2.2.2 + 1))).bind fun c3 =>
        bif ((c3.toNat : Int) == 32) then
         (eff.cutL x1.1 (some x1.2.2.1) (some x1.2.2.2)).bind fun r4 =>
         (gd (x1.2.1.length + ([r4] : List Str).length)).bind fun _ =>
         some (.inl (x1.1, x1.2.1 ++ ([r4] : List Str), w64 (x1.2.2.2 + 2), w64 (x1.2.2.2 + 1)))
        else
         some (.inl (x1.1, x1.2.1, x1.2.2.1, w64 (x1.2.2.2 + 1)))
       else
        some (.inl (x1.1, x1.2.1, x1.2.2.1, w64 (x1.2.2.2 + 1)))
      else
       (
        (eff.cutL x1.1 (some x1.2.2.1) none).bind fun r5 =>
        (gd (x1.2.1.length + ([r5] : List Str).length)).bind fun _ =>
        some (x1.2.1 ++ ([r5] : List Str))
       ).bind fun r => some (.inr r)
  )
theorem sParts_ok (s : Str) (hl : s.length <= 1048576) : sL18Parts s = some (Go.Lib.split s [59, 32]) := by
 have key : ∀ (k i f : Nat) (out : List Str), s.length = i + k -> (f <= i \/ (f = i + 1 /\ s[i]? = some 32)) -> f <= s.length -> out.length <= i -> (∀ j, f <= j -> j < i -> Go.Lib.occAt s [59, 32] j = false) ->
   loopD paBody (s, out, (f : Int), (i : Int)) = some (out ++ Go.Lib.split (s.drop f) [59, 32]) := by
  intro k
  induction k with
  | zero =>
   intro i f out hk hf hfl ho hno
   have d1 : decide (w64 ((i : Int) + 1) < (s.length : Int)) = false := by rw [w64_id (by omega) (by omega)]; simp; omega
   have hcut := cut_from s f hfl
   rw [loopD_eq]
   have hs : paBody (s, out, (f : Int), (i : Int)) = some (.inr (out ++ [s.drop f])) := by
    simp only [paBody, d1, cond_false, hcut, Option.bind_some]
    rw [gdp (by simp; omega)]
    rfl
   rw [hs]
   simp only
   rw [split_none fun j hj => ?_]
   rw [occAt_drop]
   by_cases hj2 : f + j < i
   ·exact hno (f + j) (by omega) hj2
   ·rw [occAt_two, List.getElem?_eq_none (by omega)]; rfl
  | succ k ih =>
   intro i f out hk hf hfl ho hno
   have hlt : i < s.length := by omega
   have hw : w64 ((i : Int) + 1) = ((i + 1 : Nat) : Int) := by rw [w64_id (by omega) (by omega)]; omega
   have hw2 : w64 ((i : Int) + 2) = ((i + 2 : Nat) : Int) := by rw [w64_id (by omega) (by omega)]; omega
   have hx := List.getElem?_eq_getElem hlt
   by_cases he : i + 1 = s.length
   ·have d1 : decide (((i + 1 : Nat) : Int) < (s.length : Int)) = false := by simp; omega
    have hcut := cut_from s f hfl
    have hs : paBody (s, out, (f : Int), (i : Int)) = some (.inr (out ++ [s.drop f])) := by
     simp only [paBody, hw, d1, cond_false, hcut, Option.bind_some]
     rw [gdp (by simp; omega)]
     rfl
    rw [loopD_eq, hs]
    simp only
    rw [split_none fun j hj => ?_]
    rw [occAt_drop]
    by_cases hj2 : f + j < i
    ·exact hno (f + j) (by omega) hj2
    ·rw [occAt_two, List.getElem?_eq_none (show s.length <= f + j + 1 by omega)]; simp
   ·have hlt2 : i + 1 < s.length := by omega
    have d1 : decide (((i + 1 : Nat) : Int) < (s.length : Int)) = true := by simp; omega
    have hx2 := List.getElem?_eq_getElem hlt2
    have skip : Go.Lib.occAt s [59, 32] i = false -> paBody (s, out, (f : Int), (i : Int)) = some (.inl (s, out, (f : Int), ((i + 1 : Nat) : Int))) -> (f <= i + 1) ->
      loopD paBody (s, out, (f : Int), (i : Int)) = some (out ++ Go.Lib.split (s.drop f) [59, 32]) := by
     intro ho2 hs hf2
     rw [loopD_eq, hs]
     refine ih (i + 1) f out (by omega) (.inl hf2) hfl (by omega) fun j h1 h2 => ?_
     by_cases hj : j < i
     ·exact hno j h1 hj
     ·have : j = i := by omega
      subst this
      exact ho2
    have hf2 : f <= i + 1 := by omega
    by_cases hc : s[i].toNat = 59
    ·have d2 : ((s[i].toNat : Int) == 59) = true := by simp; omega
     have e1 : s[i] = 59 := UInt8.toNat_inj.1 hc
     have hfi : f <= i := by
      rcases hf with h | ⟨_, h⟩
      ·exact h
      ·rw [hx, e1] at h; cases h
     by_cases hc2 : s[i + 1].toNat = 32
     ·have d3 : ((s[i + 1].toNat : Int) == 32) = true := by simp; omega
      have e2 : s[i + 1] = 32 := UInt8.toNat_inj.1 hc2
      have hcut := cut_mid s f i hfi (by omega)
      have hs : paBody (s, out, (f : Int), (i : Int)) = some (.inl (s, out ++ [(s.take i).drop f], ((i + 2 : Nat) : Int), ((i + 1 : Nat) : Int))) := by
       simp only [paBody, hw, hw2, d1, d2, d3, cond_true, idx_nat, hx, hx2, hcut, Option.bind_some]
       rw [gdp (by simp; omega)]
       rfl
      rw [loopD_eq, hs]
      simp only
      have hNo : Go.Lib.NoOcc (s.drop f) [59, 32] (i - f) := fun j hj => by rw [occAt_drop]; exact hno (f + j) (by omega) (by omega)
      rw [ih (i + 1) (i + 2) (out ++ [(s.take i).drop f]) (by omega) (.inr ⟨rfl, by rw [hx2, e2]⟩) (by omega) (by simp; omega) (fun j h1 h2 => by omega)]
      rw [split_hit (s := s.drop f) (sub := [59, 32]) (i := i - f) (by simp) hNo (by simp; omega) (by rw [occAt_drop, occAt_two, show f + (i - f) = i by omega, hx, hx2, e1, e2]; rfl)]
      rw [List.drop_drop, List.drop_take, show f + (i - f + ([59, 32] : Str).length) = i + 2 by simp; omega]
      simp
     ·have d3 : ((s[i + 1].toNat : Int) == 32) = false := by simp; omega
      refine skip ?_ ?_ hf2
      ·rw [occAt_two, hx2]
       have : ¬ s[i + 1] = 32 := fun h => hc2 (by rw [h]; rfl)
       simp [this]
      ·simp only [paBody, hw, d1, d2, d3, cond_true, cond_false, idx_nat, hx, hx2, Option.bind_some]
    ·have d2 : ((s[i].toNat : Int) == 59) = false := by simp; omega
     refine skip ?_ ?_ hf2
     ·rw [occAt_two, hx]
      have : ¬ s[i] = 59 := fun h => hc (by rw [h]; rfl)
      simp [this]
     ·simp only [paBody, hw, d1, d2, cond_true, cond_false, idx_nat, hx, Option.bind_some]
 have := key s.length 0 0 [] (by omega) (.inl (Nat.le_refl _)) (Nat.zero_le _) (Nat.zero_le _) (fun j _ h => by omega)
 show loopD paBody (s, [], 0, 0) = _
 simpa using this
theorem split_ne (s sub : Str) : Go.Lib.split s sub ≠ [] := by
 unfold Go.Lib.split
 cases Go.Lib.count s sub with
 | zero => simp [Go.Lib.splitK]
 | succ k =>
  unfold Go.Lib.splitK
  split <;> simp
theorem split_len (s sub : Str) : (Go.Lib.split s sub).length <= s.length + 2 /\ ∀ p, p ∈ Go.Lib.split s sub -> p.length <= s.length := by
 have key : ∀ (k : Nat) (s : Str), (Go.Lib.splitK sub 0 k s).length <= k + 1 /\ ∀ p, p ∈ Go.Lib.splitK sub 0 k s -> p.length <= s.length := by
  intro k
  induction k with
  | zero => intro s; exact ⟨Nat.le_refl _, fun p hp => by rw [List.mem_singleton.1 hp]; exact Nat.le_refl _⟩
  | succ k ih =>
   intro s
   unfold Go.Lib.splitK
   split
   ·exact ⟨by simp, fun p hp => by rw [List.mem_singleton.1 hp]; exact Nat.le_refl _⟩
   ·obtain ⟨h1, h2⟩ := ih (s.drop ((Go.Lib.index s sub).toNat + sub.length))
    refine ⟨by simp only [List.length_cons]; omega, fun p hp => ?_⟩
    rcases List.mem_cons.1 hp with rfl | hp
    ·rw [List.length_take]; omega
    ·have := h2 p hp
     rw [List.length_drop] at this
     omega
 have hc := Go.Lib.count_le s sub
 obtain ⟨h1, h2⟩ := key (Go.Lib.count s sub) s
 exact ⟨by unfold Go.Lib.split; omega, h2⟩
end Go.Proofs.YtdlfoecpgaenpaaGreatDoor
