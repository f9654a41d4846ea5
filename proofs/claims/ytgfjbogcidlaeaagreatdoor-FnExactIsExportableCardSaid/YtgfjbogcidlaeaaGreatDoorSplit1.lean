import Derived.Test.YtgfjbogcidlaeaaGreatDoorNum3
import Derived.Lib.SplitLaws
import Derived.Test.YtgfjbogcidlaeaaGreatDoorFree1
/- Plain laws: texts split at a separator: the library's strings.Split against the reference's loops. -/
set_option linter.unusedSimpArgs false
set_option linter.unusedVariables false
namespace Go.Proofs.YtgfjbogcidlaeaaGreatDoor
open Go.Abs Go.Proofs
theorem split_hit {s sub : Str} {i : Nat} (hsub : sub ≠ []) (h : Go.Lib.NoOcc s sub i) (hi : i <= s.length) (ho : Go.Lib.occAt s sub i = true) : Go.Lib.split s sub = s.take i :: Go.Lib.split (s.drop (i + sub.length)) sub := by
 have hx := Go.Lib.index_hit h hi ho
 have hc := Go.Lib.count_hit hsub hx
 unfold Go.Lib.split
 rw [hc, Nat.add_comm 1]
 show (if Go.Lib.index s sub == -1 then [s] else s.take ((Go.Lib.index s sub).toNat + 0) :: Go.Lib.splitK sub 0 _ (s.drop ((Go.Lib.index s sub).toNat + sub.length))) = _
 rw [hx]
 have e : ((i : Int) == -1) = false := by simp
 rw [e]
 simp
theorem split_none {s sub : Str} (h : ∀ j, j <= s.length -> Go.Lib.occAt s sub j = false) : Go.Lib.split s sub = [s] := by
 have hx := Go.Lib.index_none h
 have hc := Go.Lib.count_miss hx
 unfold Go.Lib.split
 rw [hc]
 rfl
theorem occAt_one (s : Str) (c : UInt8) (i : Nat) : Go.Lib.occAt s [c] i = (s[i]? == some c) := by
 unfold Go.Lib.occAt
 cases h : s.drop i with
 | nil =>
  have : s[i]? = none := List.getElem?_eq_none (List.drop_eq_nil_iff.1 h)
  rw [this]; rfl
 | cons x r =>
  have : s[i]? = some x := by
   have := congrArg (·[0]?) h
   simpa using this
  rw [this]
  show ((c == x) && true) = (x == c)
  rw [Bool.and_true]
  by_cases e : c = x
  ·subst e; rfl
  ·have e1 : (c == x) = false := by simpa using e
   have e2 : (x == c) = false := by simpa using fun h => e h.symm
   rw [e1, e2]
theorem occAt_two (s : Str) (c d : UInt8) (i : Nat) : Go.Lib.occAt s [c, d] i = ((s[i]? == some c) && (s[i + 1]? == some d)) := by
 have h1 := occAt_one s c i
 have h2 := occAt_one s d (i + 1)
 unfold Go.Lib.occAt at h1 h2 ⊢
 rw [<- h1, <- h2]
 cases h : s.drop i with
 | nil =>
  have : s.drop (i + 1) = [] := List.drop_eq_nil_iff.2 (by have := List.drop_eq_nil_iff.1 h; omega)
  rw [this]; rfl
 | cons x r =>
  have : s.drop (i + 1) = r := by
   have := congrArg List.tail h
   simpa using this
  rw [this]
  show ((c == x) && [d].isPrefixOf r) = (((c == x) && true) && [d].isPrefixOf r)
  rw [Bool.and_true]
theorem occAt_drop (s sub : Str) (f j : Nat) : Go.Lib.occAt (s.drop f) sub j = Go.Lib.occAt s sub (f + j) := by
 unfold Go.Lib.occAt
 rw [List.drop_drop]
abbrev SpX := Str × Int × (List Str) × Int × Int
noncomputable def spBody : SpX -> Option (SpX ⊕ List Str) := (fun (x1 : Str × Int × (List Str) × Int × Int) =>
      bif (decide (x1.2.2.2.2 <= (x1.1.length : Int))) then
       bif (x1.2.2.2.2 == (x1.1.length : Int)) then
        (eff.cutL x1.1 (some x1.2.2.2.1) (some x1.2.2.2.2)).bind fun r2 =>
        (gd (x1.2.2.1.length + ([r2] : List Str).length)).bind fun _ =>
        some (.inl (x1.1, x1.2.1, x1.2.2.1 ++ ([r2] : List Str), w64 (x1.2.2.2.2 + 1), w64 (x1.2.2.2.2 + 1)))
       else
        (idx x1.1 x1.2.2.2.2).bind fun c3 =>
        bif ((c3.toNat : Int) == x1.2.1) then
         (eff.cutL x1.1 (some x1.2.2.2.1) (some x1.2.2.2.2)).bind fun r4 =>
         (gd (x1.2.2.1.length + ([r4] : List Str).length)).bind fun _ =>
         some (.inl (x1.1, x1.2.1, x1.2.2.1 ++ ([r4] : List Str), w64 (x1.2.2.2.2 + 1), w64 (x1.2.2.2.2 + 1)))
        else
         some (.inl (x1.1, x1.2.1, x1.2.2.1, x1.2.2.2.1, w64 (x1.2.2.2.2 + 1)))
      else
       some (.inr (x1.2.2.1))
  )
theorem sSplit_ok (s : Str) (c : UInt8) (hl : s.length <= 1048576) : sSplitByte s (c.toNat : Int) = some (Go.Lib.split s [c]) := by
 have key : ∀ (k i f : Nat) (out : List Str), s.length + 1 = i + k -> f <= i -> i <= s.length -> out.length <= i -> (∀ j, f <= j -> j < i -> Go.Lib.occAt s [c] j = false) ->
   loopD spBody (s, (c.toNat : Int), out, (f : Int), (i : Int)) = some (out ++ Go.Lib.split (s.drop f) [c]) := by
  intro k
  induction k with
  | zero => intro i f out h1 _ h2; omega
  | succ k ih =>
   intro i f out hk hf hi ho hno
   have d1 : decide ((i : Int) <= (s.length : Int)) = true := by simp; omega
   have hw : w64 ((i : Int) + 1) = ((i + 1 : Nat) : Int) := by rw [w64_id (by omega) (by omega)]; omega
   have hg : ∀ x : Str, gd (out.length + ([x] : List Str).length) = some () := fun x => gdp (by simp; omega)
   have hcut := cut_mid s f i hf hi
   have hNo : Go.Lib.NoOcc (s.drop f) [c] (i - f) := fun j hj => by rw [occAt_drop]; exact hno (f + j) (by omega) (by omega)
   rw [loopD_eq]
   by_cases he : i = s.length
   ·subst he
    have d2 : ((s.length : Int) == (s.length : Int)) = true := by simp
    have hs : spBody (s, (c.toNat : Int), out, (f : Int), (s.length : Int)) = some (.inl (s, (c.toNat : Int), out ++ [(s.take s.length).drop f], ((s.length + 1 : Nat) : Int), ((s.length + 1 : Nat) : Int))) := by
     simp only [spBody, d1, d2, cond_true, hcut, Option.bind_some, hg, hw]
    rw [hs]
    simp only
    rw [loopD_eq]
    have d3 : decide (((s.length + 1 : Nat) : Int) <= (s.length : Int)) = false := by simp; omega
    have hs2 : spBody (s, (c.toNat : Int), out ++ [(s.take s.length).drop f], ((s.length + 1 : Nat) : Int), ((s.length + 1 : Nat) : Int)) = some (.inr (out ++ [(s.take s.length).drop f])) := by
     simp only [spBody, d3, cond_false]
    rw [hs2]
    simp only
    rw [split_none (s := s.drop f) (sub := [c]) fun j hj => ?_, List.take_length]
    rw [occAt_drop]
    by_cases hj2 : f + j < s.length
    ·exact hno (f + j) (by omega) hj2
    ·rw [occAt_one, List.getElem?_eq_none (by omega)]; rfl
   ·have hlt : i < s.length := by omega
    have d2 : ((i : Int) == (s.length : Int)) = false := by simp; omega
    have hx := List.getElem?_eq_getElem hlt
    by_cases hc : s[i] = c
    ·have d3 : ((s[i].toNat : Int) == (c.toNat : Int)) = true := by rw [hc]; simp
     have hs : spBody (s, (c.toNat : Int), out, (f : Int), (i : Int)) = some (.inl (s, (c.toNat : Int), out ++ [(s.take i).drop f], ((i + 1 : Nat) : Int), ((i + 1 : Nat) : Int))) := by
      simp only [spBody, d1, d2, d3, cond_true, cond_false, idx_nat, hx, hcut, Option.bind_some, hg, hw]
     rw [hs]
     simp only
     rw [ih (i + 1) (i + 1) (out ++ [(s.take i).drop f]) (by omega) (Nat.le_refl _) (by omega) (by simp; omega) (fun j h1 h2 => by omega)]
     rw [split_hit (s := s.drop f) (sub := [c]) (i := i - f) (by simp) hNo (by simp; omega) (by rw [occAt_drop, occAt_one, show f + (i - f) = i by omega, hx, hc]; simp)]
     rw [List.drop_drop, List.drop_take, show f + (i - f + [c].length) = i + 1 by simp; omega]
     simp
    ·have d3 : ((s[i].toNat : Int) == (c.toNat : Int)) = false := by
      have : ¬ s[i].toNat = c.toNat := fun h => hc (UInt8.toNat_inj.1 h)
      simp; omega
     have hs : spBody (s, (c.toNat : Int), out, (f : Int), (i : Int)) = some (.inl (s, (c.toNat : Int), out, (f : Int), ((i + 1 : Nat) : Int))) := by
      simp only [spBody, d1, d2, d3, cond_true, cond_false, idx_nat, hx, Option.bind_some, hw]
     rw [hs]
     simp only
     refine ih (i + 1) f out (by omega) (by omega) (by omega) (by omega) fun j h1 h2 => ?_
     by_cases hj : j < i
     ·exact hno j h1 hj
     ·have : j = i := by omega
      subst this
      rw [occAt_one, hx]
      simpa using hc
 have := key (s.length + 1) 0 0 [] (by omega) (Nat.le_refl _) (Nat.zero_le _) (Nat.zero_le _) (fun j _ h => by omega)
 show loopD spBody (s, (c.toNat : Int), [], 0, 0) = _
 simpa using this
theorem iSplit_ok (s : Str) (c : UInt8) (hl : s.length <= 1048576) : iSplitByte s (c.toNat : Int) = some (Go.Lib.split s [c]) := by
 unfold iSplitByte libSplit
 have e : bytesOf [(c.toNat : Int)] = [c] := bytesOf_octs [c]
 rw [e, if_pos ⟨by omega, by simp⟩]
 rfl
abbrev PaX := Str × (List Str) × Int × Int
noncomputable def paBody : PaX -> Option (PaX ⊕ List Str) := (fun (x1 : Str × (List Str) × Int × Int) =>
      bif (decide ((w64 (x1.2.2.2 + 1)) < (x1.1.length : Int))) then
       (idx x1.1 x1.2.2.2).bind fun c2 =>
       bif ((c2.toNat : Int) == 59) then
        (idx x1.1 (w64 (x1.2.2.2 + 1))).bind fun c3 =>
        bif ((c3.toNat : Int) == 32) then
         (eff.cutL x1.1 (some x1.2.2.1) (some x1.2.2.2)).bind fun r4 =>
         (gd (x1.2.1.length + ([r4] : List Str).length)).bind fun _ =>
         some (.inl (x1.1, x1.2.1 ++ ([r4] : List Str), w64 (x1.2.2.2 + 2), w64 (x1.2.2.2 + 1)))
        else
         some (.inl (x1.1, x1.2.1, x1.2.2.1, w64 (x1.2.2.2 + 1)))
       else
        some (.inl (x1.1, x1.2.1, x1.2.2.1, w64 (x1.2.2.2 + 1)))
      else
       (
        (eff.cutL x1.1 (some x1.2.2.1) none).bind fun r5 =>
        (gd (x1.2.1.length + ([r5] : List Str).length)).bind fun _ =>
        some (x1.2.1 ++ ([r5] : List Str))
       ).bind fun r => some (.inr r)
  )
theorem sParts_ok (s : Str) (hl : s.length <= 1048576) : sL18Parts s = some (Go.Lib.split s [59, 32]) := by
 have key : ∀ (k i f : Nat) (out : List Str), s.length = i + k -> (f <= i \/ (f = i + 1 /\ s[i]? = some 32)) -> f <= s.length -> out.length <= i -> (∀ j, f <= j -> j < i -> Go.Lib.occAt s [59, 32] j = false) ->
   loopD paBody (s, out, (f : Int), (i : Int)) = some (out ++ Go.Lib.split (s.drop f) [59, 32]) := by
  intro k
  induction k with
  | zero =>
   intro i f out hk hf hfl ho hno
   have d1 : decide (w64 ((i : Int) + 1) < (s.length : Int)) = false := by rw [w64_id (by omega) (by omega)]; simp; omega
   have hcut := cut_from s f hfl
   rw [loopD_eq]
   have hs : paBody (s, out, (f : Int), (i : Int)) = some (.inr (out ++ [s.drop f])) := by
    simp only [paBody, d1, cond_false, hcut, Option.bind_some]
    rw [gdp (by simp; omega)]
    rfl
   rw [hs]
   simp only
   rw [split_none fun j hj => ?_]
   rw [occAt_drop]
   by_cases hj2 : f + j < i
   ·exact hno (f + j) (by omega) hj2
   ·rw [occAt_two, List.getElem?_eq_none (by omega)]; rfl
  | succ k ih =>
   intro i f out hk hf hfl ho hno
   have hlt : i < s.length := by omega
   have hw : w64 ((i : Int) + 1) = ((i + 1 : Nat) : Int) := by rw [w64_id (by omega) (by omega)]; omega
   have hw2 : w64 ((i : Int) + 2) = ((i + 2 : Nat) : Int) := by rw [w64_id (by omega) (by omega)]; omega
   have hx := List.getElem?_eq_getElem hlt
   by_cases he : i + 1 = s.length
   ·have d1 : decide (((i + 1 : Nat) : Int) < (s.length : Int)) = false := by simp; omega
    have hcut := cut_from s f hfl
    have hs : paBody (s, out, (f : Int), (i : Int)) = some (.inr (out ++ [s.drop f])) := by
     simp only [paBody, hw, d1, cond_false, hcut, Option.bind_some]
     rw [gdp (by simp; omega)]
     rfl
    rw [loopD_eq, hs]
    simp only
    rw [split_none fun j hj => ?_]
    rw [occAt_drop]
    by_cases hj2 : f + j < i
    ·exact hno (f + j) (by omega) hj2
    ·rw [occAt_two, List.getElem?_eq_none (show s.length <= f + j + 1 by omega)]; simp
   ·have hlt2 : i + 1 < s.length := by omega
    have d1 : decide (((i + 1 : Nat) : Int) < (s.length : Int)) = true := by simp; omega
    have hx2 := List.getElem?_eq_getElem hlt2
    have skip : Go.Lib.occAt s [59, 32] i = false -> paBody (s, out, (f : Int), (i : Int)) = some (.inl (s, out, (f : Int), ((i + 1 : Nat) : Int))) -> (f <= i + 1) ->
      loopD paBody (s, out, (f : Int), (i : Int)) = some (out ++ Go.Lib.split (s.drop f) [59, 32]) := by
     intro ho2 hs hf2
     rw [loopD_eq, hs]
     refine ih (i + 1) f out (by omega) (.inl hf2) hfl (by omega) fun j h1 h2 => ?_
     by_cases hj : j < i
     ·exact hno j h1 hj
     ·have : j = i := by omega
      subst this
      exact ho2
    have hf2 : f <= i + 1 := by omega
    by_cases hc : s[i].toNat = 59
    ·have d2 : ((s[i].toNat : Int) == 59) = true := by simp; omega
     have e1 : s[i] = 59 := UInt8.toNat_inj.1 hc
     have hfi : f <= i := by
      rcases hf with h | ⟨_, h⟩
      ·exact h
      ·rw [hx, e1] at h; cases h
     by_cases hc2 : s[i + 1].toNat = 32
     ·have d3 : ((s[i + 1].toNat : Int) == 32) = true := by simp; omega
      have e2 : s[i + 1] = 32 := UInt8.toNat_inj.1 hc2
      have hcut := cut_mid s f i hfi (by omega)
      have hs : paBody (s, out, (f : Int), (i : Int)) = some (.inl (s, out ++ [(s.take i).drop f], ((i + 2 : Nat) : Int), ((i + 1 : Nat) : Int))) := by
       simp only [paBody, hw, hw2, d1, d2, d3, cond_true, idx_nat, hx, hx2, hcut, Option.bind_some]
       rw [gdp (by simp; omega)]
       rfl
      rw [loopD_eq, hs]
      simp only
      have hNo : Go.Lib.NoOcc (s.drop f) [59, 32] (i - f) := fun j hj => by rw [occAt_drop]; exact hno (f + j) (by omega) (by omega)
      rw [ih (i + 1) (i + 2) (out ++ [(s.take i).drop f]) (by omega) (.inr ⟨rfl, by rw [hx2, e2]⟩) (by omega) (by simp; omega) (fun j h1 h2 => by omega)]
      rw [split_hit (s := s.drop f) (sub := [59, 32]) (i := i - f) (by simp) hNo (by simp; omega) (by rw [occAt_drop, occAt_two, show f + (i - f) = i by omega, hx, hx2, e1, e2]; rfl)]
      rw [List.drop_drop, List.drop_take, show f + (i - f + ([59, 32] : Str).length) = i + 2 by simp; omega]
      simp
     ·have d3 : ((s[i + 1].toNat : Int) == 32) = false := by simp; omega
      refine skip ?_ ?_ hf2
      ·rw [occAt_two, hx2]
       have : ¬ s[i + 1] = 32 := fun h => hc2 (by rw [h]; rfl)
       simp [this]
      ·simp only [paBody, hw, d1, d2, d3, cond_true, cond_false, idx_nat, hx, hx2, Option.bind_some]
    ·have d2 : ((s[i].toNat : Int) == 59) = false := by simp; omega
     refine skip ?_ ?_ hf2
     ·rw [occAt_two, hx]
      have : ¬ s[i] = 59 := fun h => hc (by rw [h]; rfl)
      simp [this]
     ·simp only [paBody, hw, d1, d2, cond_true, cond_false, idx_nat, hx, Option.bind_some]
 have := key s.length 0 0 [] (by omega) (.inl (Nat.le_refl _)) (Nat.zero_le _) (Nat.zero_le _) (fun j _ h => by omega)
 show loopD paBody (s, [], 0, 0) = _
 simpa using this
theorem split_ne (s sub : Str) : Go.Lib.split s sub ≠ [] := by
 unfold Go.Lib.split
 cases Go.Lib.count s sub with
 | zero => simp [Go.Lib.splitK]
 | succ k =>
  unfold Go.Lib.splitK
  split <;> simp
theorem split_len (s sub : Str) : (Go.Lib.split s sub).length <= s.length + 2 /\ ∀ p, p ∈ Go.Lib.split s sub -> p.length <= s.length := by
 have key : ∀ (k : Nat) (s : Str), (Go.Lib.splitK sub 0 k s).length <= k + 1 /\ ∀ p, p ∈ Go.Lib.splitK sub 0 k s -> p.length <= s.length := by
  intro k
  induction k with
  | zero => intro s; exact ⟨Nat.le_refl _, fun p hp => by rw [List.mem_singleton.1 hp]; exact Nat.le_refl _⟩
  | succ k ih =>
   intro s
   unfold Go.Lib.splitK
   split
   ·exact ⟨by simp, fun p hp => by rw [List.mem_singleton.1 hp]; exact Nat.le_refl _⟩
   ·obtain ⟨h1, h2⟩ := ih (s.drop ((Go.Lib.index s sub).toNat + sub.length))
    refine ⟨by simp only [List.length_cons]; omega, fun p hp => ?_⟩
    rcases List.mem_cons.1 hp with rfl | hp
    ·rw [List.length_take]; omega
    ·have := h2 p hp
     rw [List.length_drop] at this
     omega
 have hc := Go.Lib.count_le s sub
 obtain ⟨h1, h2⟩ := key (Go.Lib.count s sub) s
 exact ⟨by unfold Go.Lib.split; omega, h2⟩
end Go.Proofs.YtgfjbogcidlaeaaGreatDoor
/- Plain laws: tables out of a text: ParseData alike on both sides. -/
set_option linter.unusedSimpArgs false
set_option linter.unusedVariables false
namespace Go.Proofs.YtgfjbogcidlaeaaGreatDoor
noncomputable section
open Go.Abs Go.Proofs
theorem of_ex {ρ : Type} {x : Option ρ} {v : ρ} (h : ∃ r, x = some r /\ r = v) : x = some v := by
 obtain ⟨r, e, rfl⟩ := h
 exact e
theorem of_ex2 {ρ σ : Type} {x : Option ρ} {F : σ -> ρ} (h : ∃ r, x = some r /\ ∃ y, r = F y) : ∃ y, x = some (F y) := by
 obtain ⟨r, e, y, rfl⟩ := h
 exact ⟨y, e⟩
def allFrom {α : Type} (p : Nat -> α -> Bool) : Nat -> List α -> Bool
 | _, [] => true
 | i, x :: r => p i x && allFrom p (i + 1) r
theorem all_run {α X ρ : Type} {g : X -> Option (X ⊕ ρ)} (pk : Nat -> X) (xs : List α) (p : Nat -> α -> Bool) (no yes : ρ)
  (hs : ∀ i x, xs[i]? = some x -> g (pk i) = bif p i x then some (.inl (pk (i + 1))) else some (.inr no))
  (hf : g (pk xs.length) = some (.inr yes)) : loopD g (pk 0) = some (bif allFrom p 0 xs then yes else no) := by
 have key : ∀ (ys : List α) (i : Nat), xs.drop i = ys -> i <= xs.length -> loopD g (pk i) = some (bif allFrom p i ys then yes else no) := by
  intro ys
  induction ys with
  | nil =>
   intro i hd hi
   have h2 : xs.length <= i := List.drop_eq_nil_iff.1 hd
   have : i = xs.length := by omega
   subst this
   rw [loopD_eq, hf]; rfl
  | cons y r ih =>
   intro i hd hi
   have hx : xs[i]? = some y := by
    have := congrArg (·[0]?) hd
    simpa using this
   have hlt := (List.getElem?_eq_some_iff.1 hx).1
   rw [loopD_eq, hs i y hx]
   show _ = some (bif (p i y && allFrom p (i + 1) r) then yes else no)
   cases p i y with
   | true =>
    simp only [cond_true, Bool.true_and]
    refine ih (i + 1) ?_ hlt
    have := congrArg List.tail hd
    simpa using this
   | false => rfl
 exact key xs 0 rfl (Nat.zero_le _)
def numB (p : Str) : Option Int := match iParse p (-1000000000) 1000000000 with
 | some (v, true) => some v
 | _ => none
theorem numI (p : Str) (hl : p.length <= 1048576) : ∃ v, iParse p (-1000000000) 1000000000 = some (v, (numB p).isSome) /\ (∀ u, numB p = some u -> v = u) := by
 obtain ⟨v, ok, e, _, _⟩ := iParse_spec p (-1000000000) 1000000000 (by omega) (by omega) (by omega)
 unfold numB
 rw [e]
 cases ok with
 | true => exact ⟨v, rfl, fun u hu => by cases hu; rfl⟩
 | false => exact ⟨v, rfl, fun u hu => by cases hu⟩
theorem numS (p : Str) (hl : p.length <= 1048576) : ∃ v ok, sParseInt p = some (v, ok) /\ (numB p).isSome = (ok && (decide (v >= -1000000000) && decide (v <= 1000000000))) /\ (∀ u, numB p = some u -> v = u) := by
 obtain ⟨v, ok, e, h1, h2⟩ := sParseInt_spec p (by omega)
 obtain ⟨w, ok2, e2, k1, k2⟩ := iParse_spec p (-1000000000) 1000000000 (by omega) (by omega) (by omega)
 refine ⟨v, ok, e, ?_, ?_⟩
 ·unfold numB
  rw [e2]
  cases ok2 with
  | true =>
   obtain ⟨c1, c2, c3⟩ := k1 rfl
   cases ok with
   | true =>
    obtain ⟨d1, d2, d3⟩ := h1 rfl
    have : v = w := itoa_inj ⟨d2, d3⟩ (d1.trans c1.symm) ⟨by omega, by omega⟩
    subst this
    rw [decide_eq_true c2, decide_eq_true c3]; rfl
   | false => exact absurd c1 ((h2 rfl).2 w (by omega) (by omega))
  | false =>
   cases ok with
   | false => rfl
   | true =>
    obtain ⟨d1, d2, d3⟩ := h1 rfl
    by_cases hr : v >= -1000000000 /\ v <= 1000000000
    ·exact absurd d1 ((k2 rfl).2 v hr.1 hr.2)
    ·have : (decide (v >= -1000000000) && decide (v <= 1000000000)) = false := by
      by_cases ha : v >= -1000000000
      ·rw [decide_eq_false (fun hb => hr ⟨ha, hb⟩), Bool.and_false]
      ·rw [decide_eq_false ha, Bool.false_and]
     rw [this]; rfl
 ·intro u hu
  unfold numB at hu
  rw [e2] at hu
  cases ok2 with
  | false => cases hu
  | true =>
   cases hu
   obtain ⟨c1, c2, c3⟩ := k1 rfl
   cases ok with
   | true =>
    obtain ⟨d1, d2, d3⟩ := h1 rfl
    exact itoa_inj ⟨d2, d3⟩ (d1.trans c1.symm) ⟨by omega, by omega⟩
   | false => exact absurd c1 ((h2 rfl).2 w (by omega) (by omega))
def numsOf : List Str -> Option (List Int)
 | [] => some []
 | p :: r => (numB p).bind fun v => (numsOf r).map (v :: ·)
theorem numsOf_append : ∀ (a b : List Str), numsOf (a ++ b) = (numsOf a).bind fun x => (numsOf b).map (x ++ ·)
 | [], b => by simp [numsOf]
 | p :: r, b => by
  show (numB p).bind (fun v => (numsOf (r ++ b)).map (v :: ·)) = ((numB p).bind fun v => (numsOf r).map (v :: ·)).bind fun x => (numsOf b).map (x ++ ·)
  rw [numsOf_append r b]
  cases numB p with
  | none => rfl
  | some v =>
   simp only [Option.bind_some]
   cases numsOf r with
   | none => rfl
   | some x =>
    simp only [Option.bind_some, Option.map_some]
    cases numsOf b <;> rfl
theorem numsOf_len : ∀ {a : List Str} {x : List Int}, numsOf a = some x -> x.length = a.length
 | [], x, h => by cases h; rfl
 | p :: r, x, h => by
  have h : (numB p).bind (fun v => (numsOf r).map (v :: ·)) = some x := h
  cases hp : numB p with
  | none => rw [hp] at h; cases h
  | some v =>
   rw [hp] at h
   simp only [Option.bind_some] at h
   cases hr : numsOf r with
   | none => rw [hr] at h; cases h
   | some y =>
    rw [hr] at h
    cases h
    simp [numsOf_len hr]
theorem numsOf_fail {xs : List Str} {i : Nat} {p : Str} (h : xs[i]? = some p) (hp : numB p = none) : numsOf xs = none := by
 obtain ⟨hi, rfl⟩ := List.getElem?_eq_some_iff.1 h
 have e : xs = xs.take i ++ (xs[i] :: xs.drop (i + 1)) := by rw [<- List.drop_eq_getElem_cons hi, List.take_append_drop]
 rw [e, numsOf_append]
 have : numsOf (xs[i] :: xs.drop (i + 1)) = none := by
  show (numB xs[i]).bind _ = none
  rw [hp]; rfl
 rw [this]
 cases numsOf (xs.take i) <;> rfl
theorem numsOf_next {xs : List Str} {i : Nat} {p : Str} {v : Int} {out : List Int} (h : xs[i]? = some p) (ho : numsOf (xs.take i) = some out) (hp : numB p = some v) : numsOf (xs.take (i + 1)) = some (out ++ [v]) := by
 obtain ⟨hi, rfl⟩ := List.getElem?_eq_some_iff.1 h
 rw [List.take_succ_eq_append_getElem hi, numsOf_append, ho]
 show (Option.some out).bind (fun x => ((numB xs[i]).bind fun v => (numsOf []).map (v :: ·)).map (x ++ ·)) = _
 rw [hp]; rfl
theorem iRow_ok (a : Str) (b : Int) (hl : a.length <= 100000) : iDataRow a b = some (match numsOf (Go.Lib.split a [32]) with
  | some l => (l, (l.length : Int) == b)
  | none => ([], false)) := by
 obtain ⟨s1, s2⟩ := split_len a [32]
 unfold iDataRow
 rw [show (32 : Int) = ((32 : UInt8).toNat : Int) from rfl, iSplit_ok a 32 (by omega)]
 simp only [Option.bind_some]
 generalize Go.Lib.split a [32] = ps at s1 s2
 refine of_ex (list_run (fun (out : List Int) (i : Nat) => ((b, out, ps, (ps.length : Int), (i : Int)) : Int × (List Int) × (List Str) × Int × Int)) ps (fun i out => numsOf (ps.take i) = some out) _ (fun i p out hp hI => ?_) (fun out hI => ?_) [] rfl)
 ·have hi := (List.getElem?_eq_some_iff.1 hp).1
  obtain ⟨v, e, hv⟩ := numI p (by have := s2 p (List.mem_of_getElem? hp); omega)
  simp only [cnt_in hp, cond_true, idx_nat, hp, Option.bind_some, Int.toNat_natCast, e, cnt_up hp (by omega)]
  cases hn : numB p with
  | none => exact .inr ⟨_, rfl, by rw [numsOf_fail hp hn]⟩
  | some u =>
   have := hv u hn
   subst this
   have ho := numsOf_len hI
   rw [List.length_take] at ho
   refine .inl ⟨out ++ [v], ?_, numsOf_next hp hI hn⟩
   rw [gdp (by simp; omega)]
   rfl
 ·rw [List.take_length] at hI
  exact ⟨_, by simp only [cnt_out, cond_false]; rfl, by rw [hI]⟩
theorem sRow_ok (a : Str) (b : Int) (hl : a.length <= 100000) : ∃ xs, sL18Row a b = some (match numsOf (Go.Lib.split a [32]) with
  | some l => (l, (l.length : Int) == b)
  | none => (xs, false)) := by
 obtain ⟨s1, s2⟩ := split_len a [32]
 unfold sL18Row
 rw [show (32 : Int) = ((32 : UInt8).toNat : Int) from rfl, sSplit_ok a 32 (by omega)]
 simp only [Option.bind_some]
 generalize Go.Lib.split a [32] = ps at s1 s2
 refine of_ex2 (list_run (fun (out : List Int) (i : Nat) => ((b, out, ps, (i : Int)) : Int × (List Int) × (List Str) × Int)) ps (fun i out => numsOf (ps.take i) = some out) (fun r => ∃ xs, r = (match numsOf ps with
  | some l => (l, (l.length : Int) == b)
  | none => (xs, false))) (fun i p out hp hI => ?_) (fun out hI => ?_) [] rfl)
 ·have hi := (List.getElem?_eq_some_iff.1 hp).1
  obtain ⟨v, ok, e, hk, hv⟩ := numS p (by have := s2 p (List.mem_of_getElem? hp); omega)
  have ho := numsOf_len hI
  rw [List.length_take] at ho
  have hnum : sL3Number v = some (decide (v >= -1000000000) && decide (v <= 1000000000)) := by
   unfold sL3Number
   rw [within_some]; rfl
  simp only [cnt_in hp, cond_true, idx_nat, hp, Option.bind_some, Int.toNat_natCast, e, hnum, cnt_up hp (by omega)]
  cases hn : numB p with
  | none =>
   rw [hn] at hk
   have hk : (ok && (decide (v >= -1000000000) && decide (v <= 1000000000))) = false := hk.symm
   refine .inr ⟨(out, false), ?_, out, by rw [numsOf_fail hp hn]⟩
   cases ok with
   | false => rfl
   | true =>
    rw [Bool.true_and] at hk
    rw [hk]; rfl
  | some u =>
   have := hv u hn
   subst this
   rw [hn] at hk
   have hk : true = (ok && (decide (v >= -1000000000) && decide (v <= 1000000000))) := hk
   have hk' := hk.symm
   rw [Bool.and_eq_true] at hk'
   refine .inl ⟨out ++ [v], ?_, numsOf_next hp hI hn⟩
   rw [hk'.1, hk'.2, gdp (by simp; omega)]
   rfl
 ·rw [List.take_length] at hI
  exact ⟨_, by simp only [cnt_out, cond_false]; rfl, [], by rw [hI]⟩
theorem cut_none {α : Type} (a : List α) (k : Nat) (h : k <= a.length) : eff.cutL a none (some (k : Int)) = some (a.take k) := by
 unfold eff.cutL
 simp only [Option.getD_none, Option.getD_some]
 rw [if_pos]
 ·simp
 ·omega
theorem cut_tail {α : Type} (x : α) (r : List α) : eff.cutL (x :: r) (some 1) none = some r := by
 unfold eff.cutL
 simp only [Option.getD_none, Option.getD_some]
 rw [if_pos]
 ·simp
 ·simp; omega
theorem bif_id (b : Bool) : (bif b then true else false) = b := by cases b <;> rfl
def distB (xs : List Str) : Bool := allFrom (fun i x => !((xs.take i).contains x)) 0 xs
theorem iDist_ok (xs : List Str) (hl : xs.length <= 1048576) : iAllDistinct xs = some (distB xs) := by
 unfold iAllDistinct
 refine (all_run (fun i => ((xs, xs, (xs.length : Int), (i : Int)) : (List Str) × (List Str) × Int × Int)) xs (fun i x => !((xs.take i).contains x)) false true (fun i x hx => ?_) ?_).trans (congrArg some (bif_id _))
 ·have hp := posOf_at x xs i 0 hx
  rw [Nat.zero_add] at hp
  simp only [cnt_in hx, cond_true, idx_nat, hx, Option.bind_some, iIndexOf_eq xs x (by omega), bne, hp, cnt_up hx (by omega)]
  cases (xs.take i).contains x <;> rfl
 ·simp only [cnt_out, cond_false]
theorem sDist_ok (xs : List Str) (hl : xs.length <= 1048576) : sAllDistinct xs = some (distB xs) := by
 unfold sAllDistinct
 refine (all_run (fun i => ((xs, (i : Int)) : (List Str) × Int)) xs (fun i x => !((xs.take i).contains x)) false true (fun i x hx => ?_) ?_).trans (congrArg some (bif_id _))
 ·have hi := (List.getElem?_eq_some_iff.1 hx).1
  simp only [cnt_in hx, cond_true, idx_nat, hx, Option.bind_some, cut_none xs i (by omega), sL1Has_eq (xs.take i) x (by rw [List.length_take]; omega), cnt_up hx (by omega)]
  cases (xs.take i).contains x <;> rfl
 ·simp only [cnt_out, cond_false]
def colsB (xs : List Str) : Bool := allFrom (fun _ x => validB x) 0 xs && ((decide (1 <= (xs.length : Int)) && decide ((xs.length : Int) <= 4)) && distB xs)
theorem iCols_ok (xs : List Str) (hl : xs.length <= 1048576) (hs : ∀ x, x ∈ xs -> x.length <= 120) : iAreColumns xs = some (colsB xs) := by
 unfold iAreColumns
 refine (all_run (fun i => ((xs, xs, (xs.length : Int), (i : Int)) : (List Str) × (List Str) × Int × Int)) xs (fun _ x => validB x) false ((decide (1 <= (xs.length : Int)) && decide ((xs.length : Int) <= 4)) && distB xs) (fun i x hx => ?_) ?_).trans ?_
 ·simp only [cnt_in hx, cond_true, idx_nat, hx, Option.bind_some, iValid_eq x (hs x (List.mem_of_getElem? hx)), cnt_up hx (by omega)]
  cases validB x <;> rfl
 ·simp only [cnt_out, cond_false, iWithin_eq, Option.bind_some, iDist_ok xs hl]
  cases (decide (1 <= (xs.length : Int)) && decide ((xs.length : Int) <= 4)) <;> rfl
 ·unfold colsB
  cases allFrom (fun _ x => validB x) 0 xs <;> rfl
theorem sCols_ok (xs : List Str) (hl : xs.length <= 1048576) (hs : ∀ x, x ∈ xs -> x.length <= 120) : sL3Columns xs = some (colsB xs) := by
 unfold sL3Columns
 refine (all_run (fun i => ((xs, (i : Int)) : (List Str) × Int)) xs (fun _ x => validB x) false ((decide (1 <= (xs.length : Int)) && decide ((xs.length : Int) <= 4)) && distB xs) (fun i x hx => ?_) ?_).trans ?_
 ·simp only [cnt_in hx, cond_true, idx_nat, hx, Option.bind_some, sValid_eq x (hs x (List.mem_of_getElem? hx)), cnt_up hx (by omega)]
  cases validB x <;> rfl
 ·simp only [cnt_out, cond_false, within_some, Option.bind_some, sDist_ok xs hl]
  show _ = some (Sum.inr ((decide ((xs.length : Int) >= 1) && decide ((xs.length : Int) <= 4)) && distB xs))
  cases (decide ((xs.length : Int) >= 1) && decide ((xs.length : Int) <= 4)) <;> rfl
 ·unfold colsB
  cases allFrom (fun _ x => validB x) 0 xs <;> rfl
def inR (n : Int) : Bool := decide (-1000000000 <= n) && decide (n <= 1000000000)
theorem iNumber_ok (n : Int) : iIsNumber n = some (inR n) := by
 unfold iIsNumber
 rw [iWithin_eq]; rfl
theorem sNumber_ok (n : Int) : sL3Number n = some (inR n) := by
 unfold sL3Number
 rw [within_some]; rfl
def rowB (w : Int) (r : GRow) : Bool := ((r.cells.length : Int) == w) && allFrom (fun _ n => inR n) 0 r.cells
def tabB (cols : List Str) (rows : List GRow) : Bool := colsB cols && (decide ((rows.length : Int) <= 12) && allFrom (fun _ r => rowB (cols.length : Int) r) 0 rows)
theorem iTable_ok (n step : Int) (text : Str) (cols : List Str) (rows : List GRow) (hl : cols.length <= 1048576) (hs : ∀ x, x ∈ cols -> x.length <= 120) (hr : ∀ r, r ∈ rows -> r.orig = [] /\ r.cells.length <= 1048576) :
  iIsTable ⟨5, n, step, text, [], cols, rows⟩ = some (tabB cols rows) := by
 unfold iIsTable tabB
 simp only [iCols_ok cols hl hs, Option.bind_some]
 cases colsB cols with
 | false => rfl
 | true =>
  simp only [Bool.not_true, cond_false, Bool.true_and]
  by_cases h12 : (rows.length : Int) > 12
  ·rw [decide_eq_true h12, decide_eq_false (by omega)]; rfl
  ·rw [decide_eq_false h12, decide_eq_true (by omega)]
   simp only [cond_false, Bool.true_and]
   refine (all_run (fun i => ((5, n, step, text, [], cols, rows, rows, (rows.length : Int), (i : Int)) : Int × Int × Int × Str × (List GVal) × (List Str) × (List GRow) × (List GRow) × Int × Int)) rows (fun _ r => rowB (cols.length : Int) r) false true (fun i r hx => ?_) ?_).trans (congrArg some (bif_id _))
   ·obtain ⟨ho, hc⟩ := hr r (List.mem_of_getElem? hx)
    have hup := cnt_up hx (by omega)
    simp only [cnt_in hx, cond_true, idx_nat, hx, Option.bind_some, ho, bne]
    unfold rowB
    cases ((r.cells.length : Int) == (cols.length : Int)) with
    | false => rfl
    | true =>
     simp only [Bool.not_true, cond_false, Bool.true_and]
     refine (all_run (fun j => ((5, n, step, text, [], cols, rows, r.cells, [], rows, (rows.length : Int), (i : Int), r.cells, (r.cells.length : Int), (j : Int)) : Int × Int × Int × Str × (List GVal) × (List Str) × (List GRow) × (List Int) × (List GOrigin) × (List GRow) × Int × Int × (List Int) × Int × Int)) r.cells (fun _ m => inR m) (Sum.inr false) (Sum.inl (5, n, step, text, [], cols, rows, rows, (rows.length : Int), ((i + 1 : Nat) : Int))) (fun j m hm => ?_) ?_).trans ?_
     ·simp only [cnt_in hm, cond_true, idx_nat, hm, Option.bind_some, iNumber_ok, cnt_up hm (by omega)]
      cases inR m <;> rfl
     ·simp only [cnt_out, cond_false]
      rw [loopD_eq]
      simp only [List.length_nil, Int.ofNat_zero, Int.lt_irrefl, decide_false, cond_false, hup, Option.bind_some]
     ·cases allFrom (fun _ m => inR m) 0 r.cells <;> rfl
   ·simp only [cnt_out, cond_false]
theorem sAsc_nil : sL3Ascending [] = some true := by
 unfold sL3Ascending
 rw [loopD_eq]; rfl
theorem sTable_ok (n step : Int) (text : Str) (cols : List Str) (rows : List GRow) (hl : cols.length <= 1048576) (hs : ∀ x, x ∈ cols -> x.length <= 120) (hr : ∀ r, r ∈ rows -> r.orig = [] /\ r.cells.length <= 1048576) :
  sL3Table ⟨5, n, step, text, [], cols, rows⟩ = some (tabB cols rows) := by
 unfold sL3Table tabB
 simp only [sCols_ok cols hl hs, Option.bind_some]
 cases colsB cols with
 | false => rfl
 | true =>
  simp only [Bool.not_true, cond_false, Bool.true_and]
  by_cases h12 : (rows.length : Int) > 12
  ·rw [decide_eq_true h12, decide_eq_false (by omega)]; rfl
  ·rw [decide_eq_false h12, decide_eq_true (by omega)]
   simp only [cond_false, Bool.true_and]
   refine (all_run (fun i => ((5, n, step, text, [], cols, rows, (i : Int)) : Int × Int × Int × Str × (List GVal) × (List Str) × (List GRow) × Int)) rows (fun _ r => rowB (cols.length : Int) r) false true (fun i r hx => ?_) ?_).trans (congrArg some (bif_id _))
   ·obtain ⟨ho, hc⟩ := hr r (List.mem_of_getElem? hx)
    have hup := cnt_up hx (by omega)
    simp only [cnt_in hx, cond_true, idx_nat, hx, Option.bind_some, ho, sAsc_nil, bne]
    unfold rowB
    cases ((r.cells.length : Int) == (cols.length : Int)) with
    | false => rfl
    | true =>
     simp only [Bool.not_true, cond_false, Bool.true_and]
     refine (all_run (fun j => ((5, n, step, text, [], cols, rows, (i : Int), r.cells, [], (j : Int)) : Int × Int × Int × Str × (List GVal) × (List Str) × (List GRow) × Int × (List Int) × (List GOrigin) × Int)) r.cells (fun _ m => inR m) (Sum.inr false) (Sum.inl (5, n, step, text, [], cols, rows, ((i + 1 : Nat) : Int))) (fun j m hm => ?_) ?_).trans ?_
     ·simp only [cnt_in hm, cond_true, idx_nat, hm, Option.bind_some, sNumber_ok, cnt_up hm (by omega)]
      cases inR m <;> rfl
     ·simp only [cnt_out, cond_false, hup]
     ·cases allFrom (fun _ m => inR m) 0 r.cells <;> rfl
   ·simp only [cnt_out, cond_false]
theorem iValidTab_ok (cols : List Str) (rows : List GRow) (hl : cols.length <= 1048576) (hs : ∀ x, x ∈ cols -> x.length <= 120) (hr : ∀ r, r ∈ rows -> r.orig = [] /\ r.cells.length <= 1048576) :
  iIsValidValue ⟨5, 0, 0, [], [], cols, rows⟩ = some (tabB cols rows) := by
 have h := iTable_ok 0 0 [] cols rows hl hs hr
 show iIsValidValueP ⟨5, 0, 0, [], [], cols, rows⟩ = _
 unfold iIsValidValueP
 simp only [h, Option.bind_some]
 cases ((cols.length : Int) == 0) <;> rfl
theorem sValidTab_ok (cols : List Str) (rows : List GRow) (hl : cols.length <= 1048576) (hs : ∀ x, x ∈ cols -> x.length <= 120) (hr : ∀ r, r ∈ rows -> r.orig = [] /\ r.cells.length <= 1048576) :
  sIsValidValue ⟨5, 0, 0, [], [], cols, rows⟩ = some (tabB cols rows) := by
 have h := sTable_ok 0 0 [] cols rows hl hs hr
 show sIsValidValueP ⟨5, 0, 0, [], [], cols, rows⟩ = _
 unfold sIsValidValueP
 simp only [h, Option.bind_some]
 rfl
def rowOf (w : Int) (p : Str) : Option GRow := match numsOf (Go.Lib.split p [32]) with
 | some l => if (l.length : Int) == w then some ⟨l, []⟩ else none
 | none => none
def rowsOf (w : Int) : List Str -> Option (List GRow)
 | [] => some []
 | p :: r => (rowOf w p).bind fun v => (rowsOf w r).map (v :: ·)
theorem rowsOf_append (w : Int) : ∀ (a b : List Str), rowsOf w (a ++ b) = (rowsOf w a).bind fun x => (rowsOf w b).map (x ++ ·)
 | [], b => by simp [rowsOf]
 | p :: r, b => by
  show (rowOf w p).bind (fun v => (rowsOf w (r ++ b)).map (v :: ·)) = ((rowOf w p).bind fun v => (rowsOf w r).map (v :: ·)).bind fun x => (rowsOf w b).map (x ++ ·)
  rw [rowsOf_append w r b]
  cases rowOf w p with
  | none => rfl
  | some v =>
   simp only [Option.bind_some]
   cases rowsOf w r with
   | none => rfl
   | some x =>
    simp only [Option.bind_some, Option.map_some]
    cases rowsOf w b <;> rfl
theorem rowsOf_fail {w : Int} {xs : List Str} {i : Nat} {p : Str} (h : xs[i]? = some p) (hp : rowOf w p = none) : rowsOf w xs = none := by
 obtain ⟨hi, rfl⟩ := List.getElem?_eq_some_iff.1 h
 have e : xs = xs.take i ++ (xs[i] :: xs.drop (i + 1)) := by rw [<- List.drop_eq_getElem_cons hi, List.take_append_drop]
 rw [e, rowsOf_append]
 have : rowsOf w (xs[i] :: xs.drop (i + 1)) = none := by
  show (rowOf w xs[i]).bind _ = none
  rw [hp]; rfl
 rw [this]
 cases rowsOf w (xs.take i) <;> rfl
theorem rowsOf_next {w : Int} {xs : List Str} {i : Nat} {p : Str} {v : GRow} {out : List GRow} (h : xs[i]? = some p) (ho : rowsOf w (xs.take i) = some out) (hp : rowOf w p = some v) : rowsOf w (xs.take (i + 1)) = some (out ++ [v]) := by
 obtain ⟨hi, rfl⟩ := List.getElem?_eq_some_iff.1 h
 rw [List.take_succ_eq_append_getElem hi, rowsOf_append, ho]
 show (Option.some out).bind (fun x => ((rowOf w xs[i]).bind fun v => (rowsOf w []).map (v :: ·)).map (x ++ ·)) = _
 rw [hp]; rfl
theorem rowsOf_len {w : Int} : ∀ {a : List Str} {x : List GRow}, rowsOf w a = some x -> x.length = a.length /\ ∀ r, r ∈ x -> r.orig = [] /\ (r.cells.length : Int) = w
 | [], x, h => by cases h; exact ⟨rfl, fun r hr => by cases hr⟩
 | p :: r, x, h => by
  have h : (rowOf w p).bind (fun v => (rowsOf w r).map (v :: ·)) = some x := h
  cases hp : rowOf w p with
  | none => rw [hp] at h; cases h
  | some v =>
   rw [hp] at h
   simp only [Option.bind_some] at h
   cases hr : rowsOf w r with
   | none => rw [hr] at h; cases h
   | some y =>
    rw [hr] at h
    cases h
    obtain ⟨h1, h2⟩ := rowsOf_len hr
    refine ⟨by simp [h1], fun q hq => ?_⟩
    rcases List.mem_cons.1 hq with rfl | hq
    ·unfold rowOf at hp
     split at hp
     ·rename_i l _
      split at hp
      ·rename_i hlw
       cases hp
       exact ⟨rfl, by simpa using hlw⟩
      ·cases hp
     ·cases hp
    ·exact h2 q hq
theorem rowOf_I (w : Int) (p : Str) (hl : p.length <= 100000) : ∃ l ok, iDataRow p w = some (l, ok) /\ ((ok = false /\ rowOf w p = none) \/ (ok = true /\ rowOf w p = some ⟨l, []⟩)) := by
 rw [iRow_ok p w hl]
 unfold rowOf
 cases numsOf (Go.Lib.split p [32]) with
 | none => exact ⟨_, _, rfl, .inl ⟨rfl, rfl⟩⟩
 | some l =>
  refine ⟨l, _, rfl, ?_⟩
  cases h : ((l.length : Int) == w) with
  | true => exact .inr ⟨rfl, by simpa using h⟩
  | false => exact .inl ⟨rfl, by simpa using h⟩
theorem rowOf_S (w : Int) (p : Str) (hl : p.length <= 100000) : ∃ l ok, sL18Row p w = some (l, ok) /\ ((ok = false /\ rowOf w p = none) \/ (ok = true /\ rowOf w p = some ⟨l, []⟩)) := by
 obtain ⟨xs, e⟩ := sRow_ok p w hl
 rw [e]
 unfold rowOf
 cases numsOf (Go.Lib.split p [32]) with
 | none => exact ⟨_, _, rfl, .inl ⟨rfl, rfl⟩⟩
 | some l =>
  refine ⟨l, _, rfl, ?_⟩
  cases h : ((l.length : Int) == w) with
  | true => exact .inr ⟨rfl, by simpa using h⟩
  | false => exact .inl ⟨rfl, by simpa using h⟩
def dataOf (p0 : Str) (ps : List Str) : GVal × Bool := match rowsOf ((Go.Lib.split p0 [32]).length : Int) ps with
 | none => (⟨0, 0, 0, [], [], [], []⟩, false)
 | some rows => if tabB (Go.Lib.split p0 [32]) rows = true then (⟨5, 0, 0, [], [], Go.Lib.split p0 [32], rows⟩, true) else (⟨0, 0, 0, [], [], [], []⟩, false)
theorem parts_cons (a : Str) : ∃ p0 ps, Go.Lib.split a [59, 32] = p0 :: ps := List.exists_cons_of_ne_nil (split_ne a [59, 32])
theorem iData_ok (a : Str) (hl : a.length <= 120) {p0 : Str} {ps : List Str} (hp : Go.Lib.split a [59, 32] = p0 :: ps) : iParseData a = some (dataOf p0 ps) := by
 obtain ⟨s1, s2⟩ := split_len a [59, 32]
 rw [hp] at s1 s2
 have h0 := s2 p0 (by simp)
 obtain ⟨c1, c2⟩ := split_len p0 [32]
 unfold iParseData dataOf
 have e1 : libSplit a [59, 32] = some (p0 :: ps) := by
  unfold libSplit
  rw [if_pos ⟨by omega, by simp⟩, hp]
 have e2 : iSplitByte p0 32 = some (Go.Lib.split p0 [32]) := iSplit_ok p0 32 (by omega)
 have i0 : idx (p0 :: ps) 0 = some p0 := rfl
 have i1 : (p0 :: ps)[0]? = some p0 := rfl
 simp only [e1, i0, i1, e2, cut_tail, Option.bind_some]
 generalize hcols : Go.Lib.split p0 [32] = cols at c1 c2
 refine of_ex (list_run (fun (out : List GRow) (i : Nat) => ((0, 0, 0, [], [], [], [], 5, 0, 0, [], [], cols, out, ps, (ps.length : Int), (i : Int)) : Int × Int × Int × Str × (List GVal) × (List Str) × (List GRow) × Int × Int × Int × Str × (List GVal) × (List Str) × (List GRow) × (List Str) × Int × Int)) ps (fun i out => rowsOf (cols.length : Int) (ps.take i) = some out) _ (fun i p out hp hI => ?_) (fun out hI => ?_) [] rfl)
 ·have hpl := s2 p (List.mem_cons_of_mem _ (List.mem_of_getElem? hp))
  obtain ⟨l, ok, e, hr⟩ := rowOf_I (cols.length : Int) p (by omega)
  have hpi := (List.getElem?_eq_some_iff.1 hp).1
  have hol := (rowsOf_len hI).1
  rw [List.length_take] at hol
  simp only [List.length_cons] at s1
  simp only [cnt_in hp, cond_true, idx_nat, hp, Option.bind_some, e, cnt_up hp (by omega)]
  rcases hr with ⟨rfl, hr⟩ | ⟨rfl, hr⟩
  ·exact .inr ⟨_, rfl, by rw [rowsOf_fail hp hr]⟩
  ·refine .inl ⟨out ++ [⟨l, []⟩], ?_, rowsOf_next hp hI hr⟩
   rw [gdp (by simp; omega)]
   rfl
 ·rw [List.take_length] at hI
  obtain ⟨hl1, hl2⟩ := rowsOf_len hI
  have hv := iValidTab_ok cols out (by omega) (fun x hx => by have := c2 x hx; omega) (fun r hr => by have := hl2 r hr; exact ⟨this.1, by omega⟩)
  refine ⟨_, ?_, rfl⟩
  simp only [cnt_out, cond_false, hv, Option.bind_some, hI]
  cases tabB cols out <;> rfl
theorem sData_ok (a : Str) (hl : a.length <= 120) {p0 : Str} {ps : List Str} (hp : Go.Lib.split a [59, 32] = p0 :: ps) : sParseData a = some (dataOf p0 ps) := by
 obtain ⟨s1, s2⟩ := split_len a [59, 32]
 rw [hp] at s1 s2
 have h0 := s2 p0 (by simp)
 obtain ⟨c1, c2⟩ := split_len p0 [32]
 unfold sParseData dataOf
 have e1 : sL18Parts a = some (p0 :: ps) := by rw [sParts_ok a (by omega), hp]
 have e2 : sSplitByte p0 32 = some (Go.Lib.split p0 [32]) := sSplit_ok p0 32 (by omega)
 have i0 : idx (p0 :: ps) 0 = some p0 := rfl
 have i1 : (p0 :: ps)[0]? = some p0 := rfl
 simp only [e1, i0, i1, e2, Option.bind_some]
 generalize hcols : Go.Lib.split p0 [32] = cols at c1 c2
 refine of_ex (list_run (fun (out : List GRow) (i : Nat) => ((0, 0, 0, [], [], [], [], p0 :: ps, 5, 0, 0, [], [], cols, out, ((i + 1 : Nat) : Int)) : Int × Int × Int × Str × (List GVal) × (List Str) × (List GRow) × (List Str) × Int × Int × Int × Str × (List GVal) × (List Str) × (List GRow) × Int)) ps (fun i out => rowsOf (cols.length : Int) (ps.take i) = some out) _ (fun i p out hp hI => ?_) (fun out hI => ?_) [] rfl)
 ·have hpl := s2 p (List.mem_cons_of_mem _ (List.mem_of_getElem? hp))
  obtain ⟨l, ok, e, hr⟩ := rowOf_S (cols.length : Int) p (by omega)
  have hpi := (List.getElem?_eq_some_iff.1 hp).1
  have hol := (rowsOf_len hI).1
  rw [List.length_take] at hol
  simp only [List.length_cons] at s1
  have d1 : decide (((i + 1 : Nat) : Int) < ((p0 :: ps).length : Int)) = true := by simp; omega
  have hx : (p0 :: ps)[i + 1]? = some p := by simpa using hp
  have hw : w64 (((i + 1 : Nat) : Int) + 1) = ((i + 1 + 1 : Nat) : Int) := by rw [w64_id (by omega) (by omega)]; omega
  simp only [d1, cond_true, idx_nat, hx, Option.bind_some, Int.toNat_natCast, e, hw]
  rcases hr with ⟨rfl, hr⟩ | ⟨rfl, hr⟩
  ·exact .inr ⟨_, rfl, by rw [rowsOf_fail hp hr]⟩
  ·refine .inl ⟨out ++ [⟨l, []⟩], ?_, rowsOf_next hp hI hr⟩
   rw [gdp (by simp; omega)]
   rfl
 ·rw [List.take_length] at hI
  obtain ⟨hl1, hl2⟩ := rowsOf_len hI
  have hv := sValidTab_ok cols out (by omega) (fun x hx => by have := c2 x hx; omega) (fun r hr => by have := hl2 r hr; exact ⟨this.1, by omega⟩)
  have d1 : decide (((ps.length + 1 : Nat) : Int) < ((p0 :: ps).length : Int)) = false := by simp
  refine ⟨_, ?_, rfl⟩
  simp only [d1, cond_false, hv, Option.bind_some, hI]
  cases tabB cols out <;> rfl
theorem data_alike (a : Str) (hl : a.length <= 120) : ∃ v ok, iParseData a = some (v, ok) /\ sParseData a = some (v, ok) /\ (ok = true -> ∃ cols rows, v = ⟨5, 0, 0, [], [], cols, rows⟩ /\ tabB cols rows = true /\ cols.length <= 122 /\ (∀ x, x ∈ cols -> x.length <= 120) /\ rows.length <= 122 /\ ∀ r, r ∈ rows -> r.orig = [] /\ r.cells.length <= 122) := by
 obtain ⟨p0, ps, hp⟩ := parts_cons a
 refine ⟨(dataOf p0 ps).1, (dataOf p0 ps).2, iData_ok a hl hp, sData_ok a hl hp, fun h => ?_⟩
 obtain ⟨s1, s2⟩ := split_len a [59, 32]
 rw [hp] at s1 s2
 simp only [List.length_cons] at s1
 have h0 := s2 p0 (by simp)
 obtain ⟨c1, c2⟩ := split_len p0 [32]
 unfold dataOf at h ⊢
 cases hr : rowsOf ((Go.Lib.split p0 [32]).length : Int) ps with
 | none => rw [hr] at h; cases h
 | some rows =>
  rw [hr] at h
  simp only at h ⊢
  by_cases ht : tabB (Go.Lib.split p0 [32]) rows = true
  ·rw [if_pos ht]
   obtain ⟨l1, l2⟩ := rowsOf_len hr
   exact ⟨_, rows, rfl, ht, by omega, fun x hx => by have := c2 x hx; omega, by omega, fun r hr => by have := l2 r hr; exact ⟨this.1, by omega⟩⟩
  ·rw [if_neg ht] at h; cases h
end
end Go.Proofs.YtgfjbogcidlaeaaGreatDoor
/- Plain laws: notebooks compiled: CompileAll alike on both sides. -/
set_option linter.unusedSimpArgs false
set_option linter.unusedVariables false
namespace Go.Proofs.YtgfjbogcidlaeaaGreatDoor
open Go.Abs Go.Proofs
noncomputable def errOf (w : Int) : Nat -> List Str -> Int
 | _, [] => -1
 | i, p :: r => if ((rowOf w p).isNone || decide (12 <= i)) = true then ((i + 1 : Nat) : Int) else errOf w (i + 1) r
theorem errOf_drop (w : Int) {ps : List Str} {i : Nat} {p : Str} (h : ps[i]? = some p) : errOf w i (ps.drop i) = if ((rowOf w p).isNone || decide (12 <= i)) = true then ((i + 1 : Nat) : Int) else errOf w (i + 1) (ps.drop (i + 1)) := by
 obtain ⟨hi, rfl⟩ := List.getElem?_eq_some_iff.1 h
 rw [List.drop_eq_getElem_cons hi]
 rfl
theorem iErr_ok (a : Str) (hl : a.length <= 120) {p0 : Str} {ps : List Str} (hp : Go.Lib.split a [59, 32] = p0 :: ps) (hno : (dataOf p0 ps).2 = false) :
  iDataError a = some (bif colsB (Go.Lib.split p0 [32]) then errOf ((Go.Lib.split p0 [32]).length : Int) 0 ps else 0) := by
 obtain ⟨s1, s2⟩ := split_len a [59, 32]
 rw [hp] at s1 s2
 have h0 := s2 p0 (by simp)
 obtain ⟨c1, c2⟩ := split_len p0 [32]
 unfold iDataError
 have e1 : libSplit a [59, 32] = some (p0 :: ps) := by
  unfold libSplit
  rw [if_pos ⟨by omega, by simp⟩, hp]
 have e2 : iSplitByte p0 32 = some (Go.Lib.split p0 [32]) := iSplit_ok p0 32 (by omega)
 have i0 : idx (p0 :: ps) 0 = some p0 := rfl
 have i1 : (p0 :: ps)[0]? = some p0 := rfl
 have e3 : iParseData a = some ((dataOf p0 ps).1, false) := by rw [iData_ok a hl hp, <- hno]
 have e4 := iCols_ok (Go.Lib.split p0 [32]) (by omega) (fun x hx => by have := c2 x hx; omega)
 simp only [e3, cond_false, e1, i0, i1, e2, e4, cut_tail, Option.bind_some]
 generalize Go.Lib.split p0 [32] = cols at c1 c2
 cases colsB cols with
 | false => rfl
 | true =>
  simp only [Bool.not_true, cond_false, cond_true]
  refine of_ex (list_run (fun (_ : Unit) (i : Nat) => ((cols, ps, (ps.length : Int), (i : Int)) : (List Str) × (List Str) × Int × Int)) ps (fun i _ => errOf (cols.length : Int) i (ps.drop i) = errOf (cols.length : Int) 0 ps) _ (fun i p out hx hI => ?_) (fun out hI => ?_) () rfl)
  ·have hpl := s2 p (List.mem_cons_of_mem _ (List.mem_of_getElem? hx))
   obtain ⟨l, ok, e, hr⟩ := rowOf_I (cols.length : Int) p (by omega)
   simp only [List.length_cons] at s1
   have hd := errOf_drop (cols.length : Int) hx
   simp only [cnt_in hx, cond_true, idx_nat, hx, Option.bind_some, e, cnt_up hx (by omega)]
   rcases hr with ⟨rfl, hr⟩ | ⟨rfl, hr⟩
   ·rw [hr] at hd
    exact .inr ⟨_, rfl, by rw [<- hI, hd]; rfl⟩
   ·rw [hr] at hd
    by_cases h12 : 12 <= i
    ·have d : decide ((i : Int) >= 12) = true := by simp; omega
     rw [d]
     refine .inr ⟨_, rfl, ?_⟩
     rw [<- hI, hd, decide_eq_true h12]; rfl
    ·have d : decide ((i : Int) >= 12) = false := by simp; omega
     rw [d]
     refine .inl ⟨(), rfl, ?_⟩
     rw [<- hI, hd, decide_eq_false h12]; rfl
  ·refine ⟨_, by simp only [cnt_out, cond_false]; rfl, ?_⟩
   rw [<- hI, List.drop_length]; rfl
theorem sErr_ok (a : Str) (hl : a.length <= 120) {p0 : Str} {ps : List Str} (hp : Go.Lib.split a [59, 32] = p0 :: ps) :
  sDataError a = some (bif colsB (Go.Lib.split p0 [32]) then errOf ((Go.Lib.split p0 [32]).length : Int) 0 ps else 0) := by
 obtain ⟨s1, s2⟩ := split_len a [59, 32]
 rw [hp] at s1 s2
 have h0 := s2 p0 (by simp)
 obtain ⟨c1, c2⟩ := split_len p0 [32]
 unfold sDataError
 have e1 : sL18Parts a = some (p0 :: ps) := by rw [sParts_ok a (by omega), hp]
 have e2 : sSplitByte p0 32 = some (Go.Lib.split p0 [32]) := sSplit_ok p0 32 (by omega)
 have i0 : idx (p0 :: ps) 0 = some p0 := rfl
 have i1 : (p0 :: ps)[0]? = some p0 := rfl
 have e4 := sCols_ok (Go.Lib.split p0 [32]) (by omega) (fun x hx => by have := c2 x hx; omega)
 simp only [e1, i0, i1, e2, e4, Option.bind_some]
 generalize Go.Lib.split p0 [32] = cols at c1 c2
 cases colsB cols with
 | false => rfl
 | true =>
  simp only [Bool.not_true, cond_false, cond_true]
  refine of_ex (list_run (fun (_ : Unit) (i : Nat) => ((p0 :: ps, cols, ((i + 1 : Nat) : Int)) : (List Str) × (List Str) × Int)) ps (fun i _ => errOf (cols.length : Int) i (ps.drop i) = errOf (cols.length : Int) 0 ps) _ (fun i p out hx hI => ?_) (fun out hI => ?_) () rfl)
  ·have hpl := s2 p (List.mem_cons_of_mem _ (List.mem_of_getElem? hx))
   obtain ⟨l, ok, e, hr⟩ := rowOf_S (cols.length : Int) p (by omega)
   have hpi := (List.getElem?_eq_some_iff.1 hx).1
   simp only [List.length_cons] at s1
   have hd := errOf_drop (cols.length : Int) hx
   have d1 : decide (((i + 1 : Nat) : Int) < ((p0 :: ps).length : Int)) = true := by simp; omega
   have hx' : (p0 :: ps)[i + 1]? = some p := by simpa using hx
   have hw : w64 (((i + 1 : Nat) : Int) + 1) = ((i + 1 + 1 : Nat) : Int) := by rw [w64_id (by omega) (by omega)]; omega
   simp only [d1, cond_true, idx_nat, hx', Option.bind_some, Int.toNat_natCast, e, hw]
   rcases hr with ⟨rfl, hr⟩ | ⟨rfl, hr⟩
   ·rw [hr] at hd
    exact .inr ⟨_, rfl, by rw [<- hI, hd]; rfl⟩
   ·rw [hr] at hd
    by_cases h12 : 12 <= i
    ·have d : decide (((i + 1 : Nat) : Int) > 12) = true := by simp; omega
     rw [d]
     refine .inr ⟨_, rfl, ?_⟩
     rw [<- hI, hd, decide_eq_true h12]; rfl
    ·have d : decide (((i + 1 : Nat) : Int) > 12) = false := by simp; omega
     rw [d]
     refine .inl ⟨(), rfl, ?_⟩
     rw [<- hI, hd, decide_eq_false h12]; rfl
  ·have d1 : decide (((ps.length + 1 : Nat) : Int) < ((p0 :: ps).length : Int)) = false := by simp
   refine ⟨_, by simp only [d1, cond_false]; rfl, ?_⟩
   rw [<- hI, List.drop_length]; rfl
def withFrom (c : Int) (i : Nat) (r : GRow) : GRow := ⟨r.cells, [⟨c, (i : Int)⟩]⟩
theorem set_run {ρ X : Type} {g : X -> Option (X ⊕ ρ)} (pk : List GRow -> Nat -> X) (c : Int) (rows : List GRow) (r : ρ)
  (hs : ∀ i x out, out.length = rows.length -> i < rows.length -> out[i]? = some x -> g (pk out i) = some (.inl (pk (out.set i (withFrom c i x)) (i + 1))))
  (hf : g (pk (mapFrom (withFrom c) 0 rows) rows.length) = some (.inr r)) : loopD g (pk rows 0) = some r := by
 have key : ∀ (k i : Nat) (a b : List GRow), rows.length = i + k -> a.length = i -> b.length = k -> a ++ mapFrom (withFrom c) i b = mapFrom (withFrom c) 0 rows -> loopD g (pk (a ++ b) i) = some r := by
  intro k
  induction k with
  | zero =>
   intro i a b hi ha hb he
   have : b = [] := List.length_eq_zero_iff.1 hb
   subst this
   rw [mapFrom, List.append_nil] at he
   rw [List.append_nil, he, loopD_eq, show i = rows.length by omega, hf]
  | succ k ih =>
   intro i a b hi ha hb he
   cases b with
   | nil => simp at hb
   | cons x b =>
    have hx : (a ++ x :: b)[i]? = some x := by rw [<- ha]; simp
    rw [loopD_eq, hs i x _ (by simp at hb ⊢; omega) (by omega) hx]
    simp only
    have hset : (a ++ x :: b).set i (withFrom c i x) = (a ++ [withFrom c i x]) ++ b := by
     rw [List.set_append_right _ _ (by omega), ha, Nat.sub_self]
     simp
    rw [hset]
    refine ih (i + 1) (a ++ [withFrom c i x]) b (by omega) (by simp [ha]) (by simpa using hb) ?_
    rw [List.append_assoc]
    exact he
 exact key rows.length 0 [] rows (by omega) rfl rfl rfl
theorem nest_end {X ρ : Type} {f : X -> Option (X ⊕ ρ)} {x0 : X} {q : Option ρ} {v : ρ} (h : f x0 = q.bind fun r => some (.inr r)) (hq : q = some v) : loopD f x0 = some v := by
 rw [loopD_eq, h, hq]; rfl
theorem iRowCopy (r : GRow) (h : r.cells.length <= 1048576) (h2 : r.orig.length <= 1048576) : iCopyRow r = some r := by
 unfold iCopyRow
 rw [gdp (by omega), Option.bind_some, gdp (by omega), Option.bind_some]
 cases r; rfl
theorem sRowCopy (r : GRow) (h : r.cells.length <= 1048576) (h2 : r.orig.length <= 1048576) : sL3Row r = some r := by
 unfold sL3Row
 rw [gdp (by omega), Option.bind_some, gdp (by omega), Option.bind_some]
 cases r; rfl
theorem reVal_id (v : GVal) : reVal v = v := by cases v; rfl
structure TabP (cols : List Str) (rows : List GRow) : Prop where
 cl : cols.length <= 122
 ct : ∀ x, x ∈ cols -> x.length <= 120
 rl : rows.length <= 122
 rr : ∀ r, r ∈ rows -> r.orig = [] /\ r.cells.length <= 122
theorem iCopyTab (cols : List Str) (rows : List GRow) (h : TabP cols rows) : iCopyValue ⟨5, 0, 0, [], [], cols, rows⟩ = some ⟨5, 0, 0, [], [], cols, rows⟩ := by
 have hc := h.cl
 have hr := h.rl
 unfold iCopyValue
 obtain ⟨m, hm⟩ : ∃ m, siz (⟨5, 0, 0, [], [], cols, rows⟩ : GVal) + 1 = m + 1 + 1 := ⟨siz (⟨5, 0, 0, [], [], cols, rows⟩ : GVal) - 1, by
  have : 1 <= siz (⟨5, 0, 0, [], [], cols, rows⟩ : GVal) := by simp only [siz]; rw [GVal.mk.sizeOf_spec]; omega
  omega⟩
 rw [hm]
 show iCopyValueB (iCopyValueG (m + 1)).1 (iCopyValueG (m + 1)).2 _ = _
 unfold iCopyValueB
 have h0 : (iCopyValueG (m + 1)).2 [] = some [] := by
  show iCopyValuesB (iCopyValueG m).1 (iCopyValueG m).2 [] = _
  unfold iCopyValuesB
  rw [loopD_eq]; rfl
 have hg : gd (0 + cols.length) = some () := gdp (by omega)
 simp only [h0, hg, Option.bind_some]
 refine map_run (fun (out : List GRow) (i : Nat) => ((0, 0, 0, [], [], [], [], 5, 0, 0, [], [], [] ++ cols, out, rows, (rows.length : Int), (i : Int)) : Int × Int × Int × Str × (List GVal) × (List Str) × (List GRow) × Int × Int × Int × Str × (List GVal) × (List Str) × (List GRow) × (List GRow) × Int × Int)) rows (fun _ r => r) _ (fun i r out hx ho => ?_) ?_
 ·obtain ⟨q1, q2⟩ := h.rr r (List.mem_of_getElem? hx)
  have hi := (List.getElem?_eq_some_iff.1 hx).1
  simp only [cnt_in hx, cond_true, idx_nat, hx, Option.bind_some, iRowCopy r (by omega) (by rw [q1]; simp), cnt_up hx (by omega)]
  rw [gdp (by simp; omega)]
  rfl
 ·simp only [cnt_out, cond_false, mapFrom_id]
  rfl
theorem sCopyTab (cols : List Str) (rows : List GRow) (h : TabP cols rows) : sL3Copy ⟨5, 0, 0, [], [], cols, rows⟩ = some ⟨5, 0, 0, [], [], cols, rows⟩ := by
 have hc := h.cl
 have hr := h.rl
 show sL3CopyB (sL3CopyG _) _ = _
 unfold sL3CopyB
 have hg : gd (0 + cols.length) = some () := gdp (by omega)
 simp only [hg, Option.bind_some]
 refine nest_end (by simp only [List.length_nil, Int.ofNat_zero, Int.lt_irrefl, decide_false, cond_false]; rfl) ?_
 refine map_run (fun (out : List GRow) (i : Nat) => ((5, 0, 0, [], [], cols, rows, 0, 0, 0, [], [], [], [], 5, 0, 0, [], [], [] ++ cols, out, (i : Int)) : Int × Int × Int × Str × (List GVal) × (List Str) × (List GRow) × Int × Int × Int × Str × (List GVal) × (List Str) × (List GRow) × Int × Int × Int × Str × (List GVal) × (List Str) × (List GRow) × Int)) rows (fun _ r => r) _ (fun i r out hx ho => ?_) ?_
 ·obtain ⟨q1, q2⟩ := h.rr r (List.mem_of_getElem? hx)
  have hi := (List.getElem?_eq_some_iff.1 hx).1
  simp only [cnt_in hx, cond_true, idx_nat, hx, Option.bind_some, sRowCopy r (by omega) (by rw [q1]; simp), cnt_up hx (by omega)]
  rw [gdp (by simp; omega)]
  rfl
 ·simp only [cnt_out, cond_false, mapFrom_id]
  rfl
theorem iSource_ok (c : Int) (hc : 0 <= c) (cols : List Str) (rows : List GRow) (h : TabP cols rows) (hv : tabB cols rows = true) : iSourceTable c ⟨5, 0, 0, [], [], cols, rows⟩ = some ⟨5, 0, 0, [], [], cols, mapFrom (withFrom c) 0 rows⟩ := by
 have hcl := h.cl
 have hrl := h.rl
 have h1 := iValidTab_ok cols rows (by omega) h.ct (fun r hr => by have := h.rr r hr; exact ⟨this.1, by omega⟩)
 have d : decide (c < 0) = false := by simp; omega
 unfold iSourceTable
 simp only [reVal_id, h1, hv, iCopyTab cols rows h, d, Option.bind_some, Bool.not_true, cond_false]
 refine (set_run (fun (out : List GRow) (i : Nat) => ((c, 0, 0, 0, [], [], [], [], 5, 0, 0, [], [], cols, out, (rows.length : Int), (i : Int)) : Int × Int × Int × Int × Str × (List GVal) × (List Str) × (List GRow) × Int × Int × Int × Str × (List GVal) × (List Str) × (List GRow) × Int × Int)) c rows _ (fun i x out hl hi hx => ?_) ?_)
 ·have d1 : decide ((i : Int) < (rows.length : Int)) = true := by simp; omega
  have hw : w64 ((i : Int) + 1) = ((i + 1 : Nat) : Int) := by rw [w64_id (by omega) (by omega)]; omega
  simp only [d1, cond_true, idx_nat, hx, Option.bind_some, Int.toNat_natCast, hw]
  rfl
 ·simp only [cnt_out, cond_false]
theorem sSource_ok (c : Int) (hc : 0 <= c) (cols : List Str) (rows : List GRow) (h : TabP cols rows) (hv : tabB cols rows = true) : sSourceTable c ⟨5, 0, 0, [], [], cols, rows⟩ = some ⟨5, 0, 0, [], [], cols, mapFrom (withFrom c) 0 rows⟩ := by
 have hcl := h.cl
 have hrl := h.rl
 have h1 := sValidTab_ok cols rows (by omega) h.ct (fun r hr => by have := h.rr r hr; exact ⟨this.1, by omega⟩)
 have d : decide (c < 0) = false := by simp; omega
 unfold sSourceTable
 simp only [reVal_id, h1, hv, sCopyTab cols rows h, d, Option.bind_some, Bool.not_true, cond_false]
 refine (set_run (fun (out : List GRow) (i : Nat) => ((c, 0, 0, 0, [], [], [], [], 5, 0, 0, [], [], cols, out, (i : Int)) : Int × Int × Int × Int × Str × (List GVal) × (List Str) × (List GRow) × Int × Int × Int × Str × (List GVal) × (List Str) × (List GRow) × Int)) c rows _ (fun i x out hl hi hx => ?_) ?_)
 ·have d1 : decide ((i : Int) < (out.length : Int)) = true := by simp; omega
  have hw : w64 ((i : Int) + 1) = ((i + 1 : Nat) : Int) := by rw [w64_id (by omega) (by omega)]; omega
  simp only [d1, cond_true, idx_nat, hx, Option.bind_some, Int.toNat_natCast, hw]
  rfl
 ·have d1 : decide ((rows.length : Int) < ((mapFrom (withFrom c) 0 rows).length : Int)) = false := by rw [mapFrom_len]; simp
  simp only [d1, cond_false]
theorem printable_ok (a : Str) (h : a.length <= 1048576) : ∃ v, iIsPrintable a = some v /\ sIsPrintable a = some v /\ (v = true -> a.length <= 120) := by
 have e : iIsPrintable a = sIsPrintable a := rfl
 rw [e]
 have key : ∃ v, sIsPrintable a = some v /\ (v = true -> a.length <= 120) := by
  unfold sIsPrintable
  refine list_run (fun (_ : Unit) (i : Nat) => ((a, (i : Int)) : Str × Int)) a (fun _ _ => True) _ (fun i x s hx hI => ?_) (fun s hI => ?_) () trivial
  ·simp only [cnt_in hx, cond_true, idx_nat, hx, Option.bind_some, cnt_up hx (by omega)]
   cases decide ((x.toNat : Int) < 32) with
   | true => exact .inr ⟨false, rfl, fun h => (by cases h)⟩
   | false =>
    cases decide ((x.toNat : Int) > 126) with
    | true => exact .inr ⟨false, rfl, fun h => (by cases h)⟩
    | false => exact .inl ⟨(), rfl, trivial⟩
  ·refine ⟨_, by simp only [cnt_out, cond_false]; rfl, fun h => ?_⟩
   simp at h; omega
 obtain ⟨v, e1, h1⟩ := key
 exact ⟨v, e1, e1, h1⟩
structure CellP (c : GCell) : Prop where
 id0 : 1 <= c.id
 id9 : c.id <= 999
 v0 : 1 <= c.version
 v9 : c.version <= 999
 code : c.code.length <= 120
 kind : c.kind = 1 \/ c.kind = 2 \/ c.kind = 3 \/ c.kind = 4
 name : c.name.length <= 8
theorem in_true {a b c : Int} (h : (decide (b <= a) && decide (a <= c)) = true) : b <= a /\ a <= c := by simpa using h
theorem cell_alike (c : GCell) (hn : c.name.length <= 1048576) (hc : c.code.length <= 1048576) : ∃ b, iIsValidCell c = some b /\ sIsValidCell c = some b /\ (b = true -> CellP c) := by
 obtain ⟨v, p1, p2, p3⟩ := printable_ok c.code hc
 obtain ⟨u, q1⟩ := validName_ok c.name (by omega)
 have q2 : sIsValidName c.name = some u := by rw [<- vName_alike c.name (by omega), q1]
 have w1 : ∀ a b d : Int, sL1In a b d = iWithin a b d := fun a b d => (within_eq a b d).symm
 unfold iIsValidCell sIsValidCell
 simp only [w1, iWithin_eq, p1, p2, q1, q2, Option.bind_some]
 cases h1 : (decide (1 <= c.id) && decide (c.id <= 999)) with
 | false => exact ⟨false, rfl, rfl, fun h => (by cases h)⟩
 | true =>
  cases h2 : (decide (1 <= c.version) && decide (c.version <= 999)) with
  | false => exact ⟨false, rfl, rfl, fun h => (by cases h)⟩
  | true =>
   cases v with
   | false => exact ⟨false, rfl, rfl, fun h => (by cases h)⟩
   | true =>
    have g1 := in_true h1
    have g2 := in_true h2
    have g3 := p3 rfl
    simp only [Bool.not_true, cond_false]
    have no : ∃ b : Bool, (some false : Option Bool) = some b /\ (some false : Option Bool) = some b /\ (b = true -> CellP c) := ⟨false, rfl, rfl, fun h => (by cases h)⟩
    have named : ∀ z : Option Bool, (∃ b, z = some b) -> (c.kind = 1 \/ c.kind = 2 \/ c.kind = 3 \/ c.kind = 4) -> ∃ b : Bool, (bif u then z else some false) = some b /\ (bif u then z else some false) = some b /\ (b = true -> CellP c) := by
     intro z hz hk
     obtain ⟨b, rfl⟩ := hz
     cases u with
     | false => exact no
     | true => exact ⟨b, rfl, rfl, fun _ => ⟨g1.1, g1.2, g2.1, g2.2, g3, hk, valid_short c.name (by omega) q1⟩⟩
    cases k1 : (c.kind == 1) with
    | true =>
     simp only [cond_true]
     have hk : c.kind = 1 := eq_of_beq k1
     cases hnm : (c.name == []) with
     | false => exact no
     | true => exact ⟨_, rfl, rfl, fun _ => ⟨g1.1, g1.2, g2.1, g2.2, g3, .inl hk, by rw [eq_of_beq hnm]; simp⟩⟩
    | false =>
     simp only [cond_false]
     cases k2 : (c.kind == 2) with
     | true => exact named _ ⟨_, rfl⟩ (.inr (.inl (eq_of_beq k2)))
     | false =>
      simp only [cond_false]
      cases k4 : (c.kind == 4) with
      | true => exact named _ ⟨_, rfl⟩ (.inr (.inr (.inr (eq_of_beq k4))))
      | false =>
       simp only [cond_false]
       cases k3 : (c.kind == 3) with
       | true =>
        refine named _ ?_ (.inr (.inr (.inl (eq_of_beq k3))))
        cases (c.code == []) <;> exact ⟨_, rfl⟩
       | false => exact no
structure PartP (p : GPart) : Prop where
 expr : p.kind = 2 -> ValidX p.expr /\ wtE p.expr <= 40
 name : p.name.length <= 8
theorem rePart_id (p : GPart) : rePart p = p := by
 unfold rePart
 rw [reExpr_eq, reVal_id]
theorem compile_cell (c : GCell) (hv : iIsValidCell c = some true) (hs : sIsValidCell c = some true) (hp : CellP c) : ∃ p, iCompileCell c = some p /\ sCompileCell c = some p /\ PartP p := by
 have ne : ∀ (k : Int) (n : Str) (e : GExpr) (v : GVal) (a : Int), ¬ k = 2 -> n.length <= 8 -> PartP ⟨k, n, e, v, a⟩ := fun k n e v a hk hn => ⟨fun h => absurd h hk, hn⟩
 unfold iCompileCell sCompileCell
 simp only [hv, hs, Option.bind_some, Bool.not_true, cond_false, iNumberValue, sNumberValue, iErrorValue, sErrorValue, reVal_id, reExpr_eq]
 rcases hp.kind with k | k | k | k
 ·rw [k]
  exact ⟨_, rfl, rfl, ne _ _ _ _ _ (by decide) (by simp)⟩
 ·rw [k]
  obtain ⟨e, p, h1, h2, h3⟩ := parse_alike c.code
  simp only [h1, h2, Option.bind_some]
  by_cases hp0 : p >= 0
  ·rw [decide_eq_true hp0]
   exact ⟨_, rfl, rfl, ne _ _ _ _ _ (by decide) hp.name⟩
  ·rw [decide_eq_false hp0]
   exact ⟨_, rfl, rfl, ⟨fun _ => h3 (by omega), hp.name⟩⟩
 ·rw [k]
  exact ⟨_, rfl, rfl, ne _ _ _ _ _ (by decide) hp.name⟩
 ·rw [k]
  obtain ⟨v, ok, h1, h2, h3⟩ := data_alike c.code hp.code
  simp only [h1, h2, Option.bind_some]
  cases ok with
  | false =>
   obtain ⟨p0, ps, hps⟩ := parts_cons c.code
   have hno : (dataOf p0 ps).2 = false := by
    have := (iData_ok c.code hp.code hps).symm.trans h1
    injection this with this
    rw [this]
   rw [iErr_ok c.code hp.code hps hno, sErr_ok c.code hp.code hps]
   exact ⟨_, rfl, rfl, ne _ _ _ _ _ (by decide) hp.name⟩
  | true =>
   obtain ⟨cols, rows, rfl, ht, t1, t2, t3, t4⟩ := h3 rfl
   have hT : TabP cols rows := ⟨t1, t2, t3, t4⟩
   have hid := hp.id0
   rw [iSource_ok c.id (by omega) cols rows hT ht, sSource_ok c.id (by omega) cols rows hT ht]
   exact ⟨_, rfl, rfl, ne _ _ _ _ _ (by decide) hp.name⟩
def idxC (id : Int) : Nat -> List GCell -> Int
 | _, [] => -1
 | i, c :: r => if (c.id == id) = true then (i : Int) else idxC id (i + 1) r
theorem idxC_drop (id : Int) {cs : List GCell} {i : Nat} {c : GCell} (h : cs[i]? = some c) : idxC id i (cs.drop i) = if (c.id == id) = true then (i : Int) else idxC id (i + 1) (cs.drop (i + 1)) := by
 obtain ⟨hi, rfl⟩ := List.getElem?_eq_some_iff.1 h
 rw [List.drop_eq_getElem_cons hi]
 rfl
theorem iIdxC (cs : List GCell) (id : Int) (hl : cs.length <= 1048576) : iCellIndex ⟨cs⟩ id = some (idxC id 0 cs) := by
 unfold iCellIndex
 refine of_ex (list_run (fun (_ : Unit) (i : Nat) => ((id, cs, (cs.length : Int), (i : Int)) : Int × List GCell × Int × Int)) cs (fun i _ => idxC id i (cs.drop i) = idxC id 0 cs) _ (fun i c s hx hI => ?_) (fun s hI => ?_) () rfl)
 ·have hd := idxC_drop id hx
  simp only [cnt_in hx, cond_true, idx_nat, hx, Option.bind_some, cnt_up hx (by omega)]
  cases hc : (c.id == id) with
  | true => exact .inr ⟨_, rfl, by rw [<- hI, hd, hc]; rfl⟩
  | false => exact .inl ⟨(), rfl, by rw [<- hI, hd, hc]; rfl⟩
 ·exact ⟨_, by simp only [cnt_out, cond_false]; rfl, by rw [<- hI, List.drop_length]; rfl⟩
theorem sIdxC (cs : List GCell) (id : Int) (hl : cs.length <= 1048576) : sCellIndex ⟨cs⟩ id = some (idxC id 0 cs) := by
 unfold sCellIndex
 refine of_ex (list_run (fun (_ : Unit) (i : Nat) => ((id, cs, (i : Int)) : Int × List GCell × Int)) cs (fun i _ => idxC id i (cs.drop i) = idxC id 0 cs) _ (fun i c s hx hI => ?_) (fun s hI => ?_) () rfl)
 ·have hd := idxC_drop id hx
  simp only [cnt_in hx, cond_true, idx_nat, hx, Option.bind_some, cnt_up hx (by omega)]
  cases hc : (c.id == id) with
  | true => exact .inr ⟨_, rfl, by rw [<- hI, hd, hc]; rfl⟩
  | false => exact .inl ⟨(), rfl, by rw [<- hI, hd, hc]; rfl⟩
 ·exact ⟨_, by simp only [cnt_out, cond_false]; rfl, by rw [<- hI, List.drop_length]; rfl⟩
structure CellL (c : GCell) : Prop where
 name : c.name.length <= 1048576
 code : c.code.length <= 1048576
noncomputable def cellV (c : GCell) : Bool := (iIsValidCell c).getD false
theorem cellV_i (c : GCell) (h : CellL c) : iIsValidCell c = some (cellV c) := by
 obtain ⟨b, h1, _⟩ := cell_alike c h.name h.code
 unfold cellV
 rw [h1]; rfl
theorem cellV_s (c : GCell) (h : CellL c) : sIsValidCell c = some (cellV c) := by
 obtain ⟨b, h1, h2, _⟩ := cell_alike c h.name h.code
 unfold cellV
 rw [h1, h2]; rfl
theorem cellV_p (c : GCell) (h : CellL c) (hv : cellV c = true) : CellP c := by
 obtain ⟨b, h1, _, h3⟩ := cell_alike c h.name h.code
 refine h3 ?_
 unfold cellV at hv
 rw [h1] at hv
 exact hv
noncomputable def bookV (cs : List GCell) : Bool := allFrom (fun i c => cellV c && (idxC c.id 0 cs == (i : Int))) 0 cs && decide ((cs.length : Int) <= 8)
theorem iBook_ok (cs : List GCell) (hl : cs.length <= 1048576) (h : ∀ c, c ∈ cs -> CellL c) : iIsValidNotebook ⟨cs⟩ = some (bookV cs) := by
 unfold iIsValidNotebook bookV
 refine (all_run (fun i => ((cs, cs, (cs.length : Int), (i : Int)) : List GCell × List GCell × Int × Int)) cs (fun i c => cellV c && (idxC c.id 0 cs == (i : Int))) false (decide ((cs.length : Int) <= 8)) (fun i c hx => ?_) ?_).trans ?_
 ·simp only [cnt_in hx, cond_true, idx_nat, hx, Option.bind_some, cellV_i c (h c (List.mem_of_getElem? hx)), iIdxC cs c.id hl, bne, cnt_up hx (by omega)]
  cases cellV c <;> cases (idxC c.id 0 cs == (i : Int)) <;> rfl
 ·simp only [cnt_out, cond_false]
 ·cases allFrom (fun i c => cellV c && (idxC c.id 0 cs == (i : Int))) 0 cs <;> rfl
theorem sBook_ok (cs : List GCell) (hl : cs.length <= 1048576) (h : ∀ c, c ∈ cs -> CellL c) : sIsValidNotebook ⟨cs⟩ = some (bookV cs) := by
 unfold sIsValidNotebook bookV
 refine (all_run (fun i => ((cs, (i : Int)) : List GCell × Int)) cs (fun i c => cellV c && (idxC c.id 0 cs == (i : Int))) false (decide ((cs.length : Int) <= 8)) (fun i c hx => ?_) ?_).trans ?_
 ·simp only [cnt_in hx, cond_true, idx_nat, hx, Option.bind_some, cellV_s c (h c (List.mem_of_getElem? hx)), sIdxC cs c.id hl, bne, cnt_up hx (by omega)]
  cases cellV c <;> cases (idxC c.id 0 cs == (i : Int)) <;> rfl
 ·simp only [cnt_out, cond_false]
 ·cases allFrom (fun i c => cellV c && (idxC c.id 0 cs == (i : Int))) 0 cs <;> rfl
theorem allFrom_mem {α : Type} {p : Nat -> α -> Bool} : ∀ {i : Nat} {xs : List α}, allFrom p i xs = true -> ∀ x, x ∈ xs -> ∃ j, p j x = true
 | i, y :: r, h, x, hx => by
  have h : (p i y && allFrom p (i + 1) r) = true := h
  rw [Bool.and_eq_true] at h
  rcases List.mem_cons.1 hx with rfl | hx
  ·exact ⟨i, h.1⟩
  ·exact allFrom_mem h.2 x hx
theorem book_small {cs : List GCell} (h : ∀ c, c ∈ cs -> CellL c) (hv : bookV cs = true) : cs.length <= 8 /\ ∀ c, c ∈ cs -> cellV c = true /\ CellP c := by
 unfold bookV at hv
 rw [Bool.and_eq_true] at hv
 have h8 := of_decide_eq_true hv.2
 refine ⟨by omega, fun c hc => ?_⟩
 obtain ⟨j, hj⟩ := allFrom_mem hv.1 c hc
 rw [Bool.and_eq_true] at hj
 exact ⟨hj.1, cellV_p c (h c hc) hj.1⟩
theorem compile_alike (cs : List GCell) (hl : cs.length <= 1048576) (h : ∀ c, c ∈ cs -> CellL c) : ∃ ps, iCompileAll ⟨cs⟩ = some ps /\ sCompileAll ⟨cs⟩ = some ps /\ (∀ p, p ∈ ps -> PartP p) /\ (bookV cs = true -> ps.length = cs.length) /\ ps.length <= 8 := by
 unfold iCompileAll sCompileAll
 simp only [iBook_ok cs hl h, sBook_ok cs hl h, Option.bind_some]
 cases hv : bookV cs with
 | false => exact ⟨[], rfl, rfl, fun p hp => (by cases hp), fun h => (by cases h), by simp⟩
 | true =>
  obtain ⟨h8, hcv⟩ := book_small h hv
  simp only [Bool.not_true, cond_false]
  have pt : ∀ c, c ∈ cs -> ∃ p, iCompileCell c = some p /\ sCompileCell c = some p /\ PartP p := fun c hc => by
   obtain ⟨q1, q2⟩ := hcv c hc
   exact compile_cell c (by rw [cellV_i c (h c hc), q1]) (by rw [cellV_s c (h c hc), q1]) q2
  have key := two_run (ρ := List GPart) (f := fun (x2 : (List GPart) × (List GCell) × Int × Int) =>
   bif (decide (x2.2.2.2 < x2.2.2.1)) then
    (idx x2.2.1 x2.2.2.2).bind fun e3 =>
    (iCompileCell e3).bind fun r4 =>
    (gd (x2.1.length + [rePart r4].length)).bind fun _ =>
    some (.inl (x2.1 ++ [rePart r4], x2.2.1, x2.2.2.1, w64 (x2.2.2.2 + 1)))
   else
    some (.inr (x2.1))) (g := fun (x2 : (List GCell) × (List GPart) × Int) =>
   bif (decide (x2.2.2 < (x2.1.length : Int))) then
    (idx x2.1 x2.2.2).bind fun e3 =>
    (sCompileCell e3).bind fun r4 =>
    (gd (x2.2.1.length + [rePart r4].length)).bind fun _ =>
    some (.inl (x2.1, x2.2.1 ++ [rePart r4], w64 (x2.2.2 + 1)))
   else
    some (.inr (x2.2.1))) (fun (out : List GPart) (i : Nat) => ((out, cs, (cs.length : Int), (i : Int)) : (List GPart) × (List GCell) × Int × Int)) (fun (out : List GPart) (i : Nat) => ((cs, out, (i : Int)) : (List GCell) × (List GPart) × Int)) cs (fun i out => out.length = i /\ ∀ p, p ∈ out -> PartP p) (fun ps => ps.length = cs.length /\ ∀ p, p ∈ ps -> PartP p) (fun i c out hx hI => .inl ?_) (fun out hI => ⟨out, by simp only [cnt_out, cond_false], by simp only [cnt_out, cond_false], hI⟩) [] ⟨rfl, fun p hp => (by cases hp)⟩
  ·obtain ⟨ps, e1, e2, r1, r2⟩ := key
   exact ⟨ps, e1, e2, r2, fun _ => r1, by omega⟩
  ·obtain ⟨p, c1, c2, c3⟩ := pt c (List.mem_of_getElem? hx)
   have hi := (List.getElem?_eq_some_iff.1 hx).1
   have hg : gd (out.length + [p].length) = some () := gdp (by simp; omega)
   refine ⟨out ++ [p], ?_, ?_, by simp [hI.1], fun q hq => ?_⟩
   ·simp only [cnt_in hx, cond_true, idx_nat, hx, Option.bind_some, c1, rePart_id, hg, cnt_up hx (by omega)]
   ·simp only [cnt_in hx, cond_true, idx_nat, hx, Option.bind_some, c2, rePart_id, hg, cnt_up hx (by omega)]
   ·rcases List.mem_append.1 hq with hq | hq
    ·exact hI.2 q hq
    ·rw [List.mem_singleton.1 hq]; exact c3
end Go.Proofs.YtgfjbogcidlaeaaGreatDoor
/- Plain laws: what a part uses, and who defines a name: the two programs alike. -/
set_option linter.unusedSimpArgs false
set_option linter.unusedVariables false
namespace Go.Proofs.YtgfjbogcidlaeaaGreatDoor
open Go.Abs Go.Proofs
noncomputable def usesL (p : GPart) : List Str := (sUsesOf p).getD []
theorem uses_ok (p : GPart) (h : PartP p) : iUsesOf p = some (usesL p) /\ sUsesOf p = some (usesL p) /\ (usesL p).length <= 1000 := by
 have key : ∃ ys, iUsesOf p = some ys /\ sUsesOf p = some ys /\ ys.length <= 1000 := by
  unfold iUsesOf sUsesOf
  by_cases hk : p.kind = 2
  ·have e : (p.kind != 2) = false := by rw [hk]; rfl
   obtain ⟨hv, hw⟩ := h.expr hk
   obtain ⟨ys, h1, h2, _, h4, _⟩ := freeNames_alike p.expr (by omega)
   rw [e]
   simp only [cond_false, reExpr_eq, h1, h2, Option.bind_some]
   exact ⟨ys, rfl, rfl, by omega⟩
  ·have e : (p.kind != 2) = true := by simpa using hk
   rw [e]
   exact ⟨[], rfl, rfl, by simp⟩
 obtain ⟨ys, h1, h2, h3⟩ := key
 have e : usesL p = ys := by unfold usesL; rw [h2]; rfl
 rw [e]
 exact ⟨h1, h2, h3⟩
def defsOf (b : Str) : Nat -> List GPart -> List Int
 | _, [] => []
 | i, p :: r => if ((p.kind != 1) && (p.name == b)) = true then (i : Int) :: defsOf b (i + 1) r else defsOf b (i + 1) r
theorem defsOf_drop (b : Str) {ps : List GPart} {i : Nat} {p : GPart} (h : ps[i]? = some p) : defsOf b i (ps.drop i) = if ((p.kind != 1) && (p.name == b)) = true then (i : Int) :: defsOf b (i + 1) (ps.drop (i + 1)) else defsOf b (i + 1) (ps.drop (i + 1)) := by
 obtain ⟨hi, rfl⟩ := List.getElem?_eq_some_iff.1 h
 rw [List.drop_eq_getElem_cons hi]
 rfl
theorem defsOf_mem (b : Str) : ∀ (ps : List GPart) (i : Nat) (k : Int), k ∈ defsOf b i ps -> (i : Int) <= k /\ k < ((i + ps.length : Nat) : Int)
 | [], i, k, h => by cases h
 | p :: r, i, k, h => by
  unfold defsOf at h
  split at h
  ·rcases List.mem_cons.1 h with rfl | h
   ·simp; omega
   ·have := defsOf_mem b r (i + 1) k h
    simp only [List.length_cons]; omega
  ·have := defsOf_mem b r (i + 1) k h
   simp only [List.length_cons]; omega
theorem defs_next {b : Str} {ps : List GPart} {i : Nat} {p : GPart} (hx : ps[i]? = some p) {out : List Int} (hI : out ++ defsOf b i (ps.drop i) = defsOf b 0 ps) :
  (if ((p.kind != 1) && (p.name == b)) = true then out ++ [(i : Int)] else out) ++ defsOf b (i + 1) (ps.drop (i + 1)) = defsOf b 0 ps := by
 rw [<- hI, defsOf_drop b hx]
 split
 ·rw [List.append_assoc]; rfl
 ·rfl
theorem len_next {c : Bool} {out : List Int} {i : Nat} (h : out.length <= i) : (if c = true then out ++ [(i : Int)] else out).length <= i + 1 := by
 split
 ·simp; omega
 ·omega
theorem iDef_ok (ps : List GPart) (b : Str) (hl : ps.length <= 1048576) : iDefiners ps b = some (defsOf b 0 ps) := by
 unfold iDefiners
 refine of_ex (list_run (fun (out : List Int) (i : Nat) => ((b, out, ps, (ps.length : Int), (i : Int)) : Str × (List Int) × (List GPart) × Int × Int)) ps (fun i out => out ++ defsOf b i (ps.drop i) = defsOf b 0 ps /\ out.length <= i) _ (fun i p out hx hI => .inl ?_) (fun out hI => ?_) [] ⟨rfl, Nat.le_refl _⟩)
 ·have hi := (List.getElem?_eq_some_iff.1 hx).1
  have hg : ∀ n : Int, gd (out.length + [n].length) = some () := fun n => gdp (by simp; omega)
  refine ⟨if ((p.kind != 1) && (p.name == b)) = true then out ++ [(i : Int)] else out, ?_, defs_next hx hI.1, len_next hI.2⟩
  simp only [cnt_in hx, cond_true, idx_nat, hx, Option.bind_some, hg, cnt_up hx (by omega)]
  cases (p.kind != 1) <;> cases (p.name == b) <;> rfl
 ·refine ⟨out, by simp only [cnt_out, cond_false], ?_⟩
  have := hI.1
  rw [List.drop_length] at this
  simpa [defsOf] using this
theorem sDef_ok (ps : List GPart) (b : Str) (hl : ps.length <= 1048576) : sDefiners ps b = some (defsOf b 0 ps) := by
 unfold sDefiners
 refine of_ex (list_run (fun (out : List Int) (i : Nat) => ((ps, b, out, (i : Int)) : (List GPart) × Str × (List Int) × Int)) ps (fun i out => out ++ defsOf b i (ps.drop i) = defsOf b 0 ps /\ out.length <= i) _ (fun i p out hx hI => .inl ?_) (fun out hI => ?_) [] ⟨rfl, Nat.le_refl _⟩)
 ·have hi := (List.getElem?_eq_some_iff.1 hx).1
  have hg : ∀ n : Int, gd (out.length + [n].length) = some () := fun n => gdp (by simp; omega)
  refine ⟨if ((p.kind != 1) && (p.name == b)) = true then out ++ [(i : Int)] else out, ?_, defs_next hx hI.1, len_next hI.2⟩
  simp only [cnt_in hx, cond_true, idx_nat, hx, Option.bind_some, hg, cnt_up hx (by omega)]
  cases (p.kind != 1) <;> cases (p.name == b) <;> rfl
 ·refine ⟨out, by simp only [cnt_out, cond_false], ?_⟩
  have := hI.1
  rw [List.drop_length] at this
  simpa [defsOf] using this
def resOf : List Int -> Int
 | [] => -1
 | [k] => k
 | _ => -2
theorem iRes_ok (ps : List GPart) (b : Str) (hl : ps.length <= 1048576) : iResolve ps b = some (resOf (defsOf b 0 ps)) := by
 unfold iResolve
 rw [iDef_ok ps b hl, Option.bind_some]
 cases defsOf b 0 ps with
 | nil => rfl
 | cons k r => cases r with
  | nil => rfl
  | cons k2 r =>
   have e1 : (((k :: k2 :: r).length : Int) == 0) = false := by simp; omega
   have e2 : (((k :: k2 :: r).length : Int) == 1) = false := by simp; omega
   rw [e1, e2]; rfl
theorem sRes_ok (ps : List GPart) (b : Str) (hl : ps.length <= 1048576) : sResolve ps b = some (resOf (defsOf b 0 ps)) := by
 unfold sResolve
 rw [sDef_ok ps b hl, Option.bind_some]
 cases defsOf b 0 ps with
 | nil => rfl
 | cons k r => cases r with
  | nil => rfl
  | cons k2 r =>
   have e1 : (((k :: k2 :: r).length : Int) == 0) = false := by simp; omega
   have e2 : (((k :: k2 :: r).length : Int) == 1) = false := by simp; omega
   rw [e1, e2]; rfl
theorem res_lt (ps : List GPart) (b : Str) (h : 0 <= resOf (defsOf b 0 ps)) : ∃ k : Nat, resOf (defsOf b 0 ps) = k /\ k < ps.length := by
 cases hd : defsOf b 0 ps with
 | nil => rw [hd] at h; exact absurd h (by decide)
 | cons k r => cases r with
  | nil =>
   have := defsOf_mem b ps 0 k (by rw [hd]; simp)
   exact ⟨k.toNat, by show k = _; omega, by omega⟩
  | cons k2 r => rw [hd] at h; exact absurd h (by show ¬ (0 : Int) <= -2; decide)
end Go.Proofs.YtgfjbogcidlaeaaGreatDoor
