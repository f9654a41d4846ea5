import Derived.Test.YtgfjbogcidlaeaaGreatDoorNum3
import Derived.Lib.SplitLaws
import Derived.Test.YtgfjbogcidlaeaaGreatDoorFree1
/- Plain laws: texts split at a separator: the library's strings.Split against the reference's loops. -/
set_option linter.unusedSimpArgs false
set_option linter.unusedVariables false
namespace Go.Proofs.YtgfjbogcidlaeaaGreatDoor
open Go.Abs Go.Proofs
theorem MC {s sub : Str} {i : Nat} (hsub : sub ≠ []) (h : Go.Lib.NoOcc s sub i) (hi : i <= s.length) (ho : Go.Lib.occAt s sub i = true) : Go.Lib.split s sub = s.take i :: Go.Lib.split (s.drop (i + sub.length)) sub := by
 have hx := Go.Lib.index_hit h hi ho
 have hc := Go.Lib.count_hit hsub hx
 unfold Go.Lib.split
 rw [hc, Nat.add_comm 1]
 show (if Go.Lib.index s sub == -1 then [s] else s.take ((Go.Lib.index s sub).toNat + 0) :: Go.Lib.splitK sub 0 _ (s.drop ((Go.Lib.index s sub).toNat + sub.length))) = _
 rw [hx]
 have e : ((i : Int) == -1) = false := by simp
 rw [e]
 simp
theorem zl {s sub : Str} (h : ∀ j, j <= s.length -> Go.Lib.occAt s sub j = false) : Go.Lib.split s sub = [s] := by
 have hx := Go.Lib.index_none h
 have hc := Go.Lib.count_miss hx
 unfold Go.Lib.split
 rw [hc]
 rfl
theorem rH (s : Str) (c : UInt8) (i : Nat) : Go.Lib.occAt s [c] i = (s[i]? == some c) := by
 unfold Go.Lib.occAt
 cases h : s.drop i with
 | nil =>
  have : s[i]? = none := zJ (List.drop_eq_nil_iff.1 h)
  rw [this]; rfl
 | cons x r =>
  have : s[i]? = some x := by
   have := congrArg (·[0]?) h
   simpa using this
  rw [this]
  show ((c == x) && true) = (x == c)
  rw [Bool.and_true]
  by_cases e : c = x
  ·subst e; rfl
  ·have e1 : (c == x) = false := by simpa using e
   have e2 : (x == c) = false := by simpa using fun h => e h.symm
   rw [e1, e2]
theorem rG (s : Str) (c d : UInt8) (i : Nat) : Go.Lib.occAt s [c, d] i = ((s[i]? == some c) && (s[i + 1]? == some d)) := by
 have h1 := rH s c i
 have h2 := rH s d (i + 1)
 unfold Go.Lib.occAt at h1 h2 ⊢
 rw [<- h1, <- h2]
 cases h : s.drop i with
 | nil =>
  have : s.drop (i + 1) = [] := List.drop_eq_nil_iff.2 (by have := List.drop_eq_nil_iff.1 h; omega)
  rw [this]; rfl
 | cons x r =>
  have : s.drop (i + 1) = r := by
   have := congrArg List.tail h
   simpa using this
  rw [this]
  show ((c == x) && [d].isPrefixOf r) = (((c == x) && true) && [d].isPrefixOf r)
  rw [Bool.and_true]
theorem kC (s sub : Str) (f j : Nat) : Go.Lib.occAt (s.drop f) sub j = Go.Lib.occAt s sub (f + j) := by
 unfold Go.Lib.occAt
 rw [List.drop_drop]
abbrev SpX := Str × Int × (List Str) × Int × Int
noncomputable def qF : SpX -> Option (SpX ⊕ List Str) := (fun (x1 : Str × Int × (List Str) × Int × Int) =>
      bif (decide (x1.2.2.2.2 <= (x1.1.length : Int))) then
       bif (x1.2.2.2.2 == (x1.1.length : Int)) then
        (eff.cutL x1.1 (some x1.2.2.2.1) (some x1.2.2.2.2)).bind fun r2 =>
        (gd (x1.2.2.1.length + ([r2] : List Str).length)).bind fun _ =>
        some (.inl (x1.1, x1.2.1, x1.2.2.1 ++ ([r2] : List Str), w64 (x1.2.2.2.2 + 1), w64 (x1.2.2.2.2 + 1)))
       else
        (idx x1.1 x1.2.2.2.2).bind fun c3 =>
        bif ((c3.toNat : Int) == x1.2.1) then
         (eff.cutL x1.1 (some x1.2.2.2.1) (some x1.2.2.2.2)).bind fun r4 =>
         (gd (x1.2.2.1.length + ([r4] : List Str).length)).bind fun _ =>
         some (.inl (x1.1, x1.2.1, x1.2.2.1 ++ ([r4] : List Str), w64 (x1.2.2.2.2 + 1), w64 (x1.2.2.2.2 + 1)))
        else
         some (.inl (x1.1, x1.2.1, x1.2.2.1, x1.2.2.2.1, w64 (x1.2.2.2.2 + 1)))
      else
       some (.inr (x1.2.2.1))
  )
theorem Dj (s : Str) (c : UInt8) (hl : s.length <= 1048576) : ku s (c.toNat : Int) = some (Go.Lib.split s [c]) := by
 have key : ∀ (k i f : Nat) (out : List Str), s.length + 1 = i + k -> f <= i -> i <= s.length -> out.length <= i -> (∀ j, f <= j -> j < i -> Go.Lib.occAt s [c] j = false) ->
   ah qF (s, (c.toNat : Int), out, (f : Int), (i : Int)) = some (out ++ Go.Lib.split (s.drop f) [c]) := by
  intro k
  induction k with
  | zero => intro i f out h1 _ h2; omega
  | succ k ih =>
   intro i f out hk hf hi ho hno
   have d1 : decide ((i : Int) <= (s.length : Int)) = true := by simp; omega
   have hw : w64 ((i : Int) + 1) = ((i + 1 : Nat) : Int) := by rw [bG (by omega) (by omega)]; omega
   have hg : ∀ x : Str, gd (out.length + ([x] : List Str).length) = some () := fun x => gdp (by simp; omega)
   have hcut := lY s f i hf hi
   have hNo : Go.Lib.NoOcc (s.drop f) [c] (i - f) := fun j hj => by rw [kC]; exact hno (f + j) (by omega) (by omega)
   rw [aH]
   by_cases he : i = s.length
   ·subst he
    have d2 : ((s.length : Int) == (s.length : Int)) = true := by simp
    have hs : qF (s, (c.toNat : Int), out, (f : Int), (s.length : Int)) = some (.inl (s, (c.toNat : Int), out ++ [(s.take s.length).drop f], ((s.length + 1 : Nat) : Int), ((s.length + 1 : Nat) : Int))) := by
     simp only [qF, d1, d2, cond_true, hcut, zA, hg, hw]
    rw [hs]
    simp only
    rw [aH]
    have d3 : decide (((s.length + 1 : Nat) : Int) <= (s.length : Int)) = false := by simp; omega
    have hs2 : qF (s, (c.toNat : Int), out ++ [(s.take s.length).drop f], ((s.length + 1 : Nat) : Int), ((s.length + 1 : Nat) : Int)) = some (.inr (out ++ [(s.take s.length).drop f])) := by
     simp only [qF, d3, cond_false]
    rw [hs2]
    simp only
    rw [zl (s := s.drop f) (sub := [c]) fun j hj => ?_, List.take_length]
    rw [kC]
    by_cases hj2 : f + j < s.length
    ·exact hno (f + j) (by omega) hj2
    ·rw [rH, zJ (by omega)]; rfl
   ·have hlt : i < s.length := by omega
    have d2 : ((i : Int) == (s.length : Int)) = false := by simp; omega
    have hx := zF hlt
    by_cases hc : s[i] = c
    ·have d3 : ((s[i].toNat : Int) == (c.toNat : Int)) = true := by rw [hc]; simp
     have hs : qF (s, (c.toNat : Int), out, (f : Int), (i : Int)) = some (.inl (s, (c.toNat : Int), out ++ [(s.take i).drop f], ((i + 1 : Nat) : Int), ((i + 1 : Nat) : Int))) := by
      simp only [qF, d1, d2, d3, cond_true, cond_false, aB, hx, hcut, zA, hg, hw]
     rw [hs]
     simp only
     rw [ih (i + 1) (i + 1) (out ++ [(s.take i).drop f]) (by omega) (Nat.le_refl _) (by omega) (by simp; omega) (fun j h1 h2 => by omega)]
     rw [MC (s := s.drop f) (sub := [c]) (i := i - f) (by simp) hNo (by simp; omega) (by rw [kC, rH, show f + (i - f) = i by omega, hx, hc]; simp)]
     rw [List.drop_drop, List.drop_take, show f + (i - f + [c].length) = i + 1 by simp; omega]
     simp
    ·have d3 : ((s[i].toNat : Int) == (c.toNat : Int)) = false := by
      have : ¬ s[i].toNat = c.toNat := fun h => hc (UInt8.toNat_inj.1 h)
      simp; omega
     have hs : qF (s, (c.toNat : Int), out, (f : Int), (i : Int)) = some (.inl (s, (c.toNat : Int), out, (f : Int), ((i + 1 : Nat) : Int))) := by
      simp only [qF, d1, d2, d3, cond_true, cond_false, aB, hx, zA, hw]
     rw [hs]
     simp only
     refine ih (i + 1) f out (by omega) (by omega) (by omega) (by omega) fun j h1 h2 => ?_
     by_cases hj : j < i
     ·exact hno j h1 hj
     ·have : j = i := by omega
      subst this
      rw [rH, hx]
      simpa using hc
 have := key (s.length + 1) 0 0 [] (by omega) (Nat.le_refl _) (Nat.zero_le _) (Nat.zero_le _) (fun j _ h => by omega)
 show ah qF (s, (c.toNat : Int), [], 0, 0) = _
 simpa using this
theorem DL (s : Str) (c : UInt8) (hl : s.length <= 1048576) : jw s (c.toNat : Int) = some (Go.Lib.split s [c]) := by
 unfold jw jc
 have e : bytesOf [(c.toNat : Int)] = [c] := P9 [c]
 rw [e, if_pos ⟨by omega, by simp⟩]
 rfl
abbrev PaX := Str × (List Str) × Int × Int
noncomputable def nC : PaX -> Option (PaX ⊕ List Str) := (fun (x1 : Str × (List Str) × Int × Int) =>
      bif (decide ((w64 (x1.2.2.2 + 1)) < (x1.1.length : Int))) then
       (idx x1.1 x1.2.2.2).bind fun c2 =>
       bif ((c2.toNat : Int) == 59) then
        (idx x1.1 (w64 (x1.2.2.2 + 1))).bind fun c3 =>
        bif ((c3.toNat : Int) == 32) then
         (eff.cutL x1.1 (some x1.2.2.1) (some x1.2.2.2)).bind fun r4 =>
         (gd (x1.2.1.length + ([r4] : List Str).length)).bind fun _ =>
         some (.inl (x1.1, x1.2.1 ++ ([r4] : List Str), w64 (x1.2.2.2 + 2), w64 (x1.2.2.2 + 1)))
        else
         some (.inl (x1.1, x1.2.1, x1.2.2.1, w64 (x1.2.2.2 + 1)))
       else
        some (.inl (x1.1, x1.2.1, x1.2.2.1, w64 (x1.2.2.2 + 1)))
      else
       (
        (eff.cutL x1.1 (some x1.2.2.1) none).bind fun r5 =>
        (gd (x1.2.1.length + ([r5] : List Str).length)).bind fun _ =>
        some (x1.2.1 ++ ([r5] : List Str))
       ).bind fun r => some (.inr r)
  )
theorem MI (s : Str) (hl : s.length <= 1048576) : oH s = some (Go.Lib.split s [59, 32]) := by
 have key : ∀ (k i f : Nat) (out : List Str), s.length = i + k -> (f <= i \/ (f = i + 1 /\ s[i]? = some 32)) -> f <= s.length -> out.length <= i -> (∀ j, f <= j -> j < i -> Go.Lib.occAt s [59, 32] j = false) ->
   ah nC (s, out, (f : Int), (i : Int)) = some (out ++ Go.Lib.split (s.drop f) [59, 32]) := by
  intro k
  induction k with
  | zero =>
   intro i f out hk hf hfl ho hno
   have d1 : decide (w64 ((i : Int) + 1) < (s.length : Int)) = false := by rw [bG (by omega) (by omega)]; simp; omega
   have hcut := xC s f hfl
   rw [aH]
   have hs : nC (s, out, (f : Int), (i : Int)) = some (.inr (out ++ [s.drop f])) := by
    simp only [nC, d1, cond_false, hcut, zA]
    rw [gdp (by simp; omega)]
    rfl
   rw [hs]
   simp only
   rw [zl fun j hj => ?_]
   rw [kC]
   by_cases hj2 : f + j < i
   ·exact hno (f + j) (by omega) hj2
   ·rw [rG, zJ (by omega)]; rfl
  | succ k ih =>
   intro i f out hk hf hfl ho hno
   have hlt : i < s.length := by omega
   have hw : w64 ((i : Int) + 1) = ((i + 1 : Nat) : Int) := by rw [bG (by omega) (by omega)]; omega
   have hw2 : w64 ((i : Int) + 2) = ((i + 2 : Nat) : Int) := by rw [bG (by omega) (by omega)]; omega
   have hx := zF hlt
   by_cases he : i + 1 = s.length
   ·have d1 : decide (((i + 1 : Nat) : Int) < (s.length : Int)) = false := by simp; omega
    have hcut := xC s f hfl
    have hs : nC (s, out, (f : Int), (i : Int)) = some (.inr (out ++ [s.drop f])) := by
     simp only [nC, hw, d1, cond_false, hcut, zA]
     rw [gdp (by simp; omega)]
     rfl
    rw [aH, hs]
    simp only
    rw [zl fun j hj => ?_]
    rw [kC]
    by_cases hj2 : f + j < i
    ·exact hno (f + j) (by omega) hj2
    ·rw [rG, zJ (show s.length <= f + j + 1 by omega)]; simp
   ·have hlt2 : i + 1 < s.length := by omega
    have d1 : decide (((i + 1 : Nat) : Int) < (s.length : Int)) = true := by simp; omega
    have hx2 := zF hlt2
    have skip : Go.Lib.occAt s [59, 32] i = false -> nC (s, out, (f : Int), (i : Int)) = some (.inl (s, out, (f : Int), ((i + 1 : Nat) : Int))) -> (f <= i + 1) ->
      ah nC (s, out, (f : Int), (i : Int)) = some (out ++ Go.Lib.split (s.drop f) [59, 32]) := by
     intro ho2 hs hf2
     rw [aH, hs]
     refine ih (i + 1) f out (by omega) (.inl hf2) hfl (by omega) fun j h1 h2 => ?_
     by_cases hj : j < i
     ·exact hno j h1 hj
     ·have : j = i := by omega
      subst this
      exact ho2
    have hf2 : f <= i + 1 := by omega
    by_cases hc : s[i].toNat = 59
    ·have d2 : ((s[i].toNat : Int) == 59) = true := by simp; omega
     have e1 : s[i] = 59 := UInt8.toNat_inj.1 hc
     have hfi : f <= i := by
      rcases hf with h | ⟨_, h⟩
      ·exact h
      ·rw [hx, e1] at h; cases h
     by_cases hc2 : s[i + 1].toNat = 32
     ·have d3 : ((s[i + 1].toNat : Int) == 32) = true := by simp; omega
      have e2 : s[i + 1] = 32 := UInt8.toNat_inj.1 hc2
      have hcut := lY s f i hfi (by omega)
      have hs : nC (s, out, (f : Int), (i : Int)) = some (.inl (s, out ++ [(s.take i).drop f], ((i + 2 : Nat) : Int), ((i + 1 : Nat) : Int))) := by
       simp only [nC, hw, hw2, d1, d2, d3, cond_true, aB, hx, hx2, hcut, zA]
       rw [gdp (by simp; omega)]
       rfl
      rw [aH, hs]
      simp only
      have hNo : Go.Lib.NoOcc (s.drop f) [59, 32] (i - f) := fun j hj => by rw [kC]; exact hno (f + j) (by omega) (by omega)
      rw [ih (i + 1) (i + 2) (out ++ [(s.take i).drop f]) (by omega) (.inr ⟨rfl, by rw [hx2, e2]⟩) (by omega) (by simp; omega) (fun j h1 h2 => by omega)]
      rw [MC (s := s.drop f) (sub := [59, 32]) (i := i - f) (by simp) hNo (by simp; omega) (by rw [kC, rG, show f + (i - f) = i by omega, hx, hx2, e1, e2]; rfl)]
      rw [List.drop_drop, List.drop_take, show f + (i - f + ([59, 32] : Str).length) = i + 2 by simp; omega]
      simp
     ·have d3 : ((s[i + 1].toNat : Int) == 32) = false := by simp; omega
      refine skip ?_ ?_ hf2
      ·rw [rG, hx2]
       have : ¬ s[i + 1] = 32 := fun h => hc2 (by rw [h]; rfl)
       simp [this]
      ·simp only [nC, hw, d1, d2, d3, cond_true, cond_false, aB, hx, hx2, zA]
    ·have d2 : ((s[i].toNat : Int) == 59) = false := by simp; omega
     refine skip ?_ ?_ hf2
     ·rw [rG, hx]
      have : ¬ s[i] = 59 := fun h => hc (by rw [h]; rfl)
      simp [this]
     ·simp only [nC, hw, d1, d2, cond_true, cond_false, aB, hx, zA]
 have := key s.length 0 0 [] (by omega) (.inl (Nat.le_refl _)) (Nat.zero_le _) (Nat.zero_le _) (fun j _ h => by omega)
 show ah nC (s, [], 0, 0) = _
 simpa using this
theorem YC (s sub : Str) : Go.Lib.split s sub ≠ [] := by
 unfold Go.Lib.split
 cases Go.Lib.count s sub with
 | zero => simp [Go.Lib.splitK]
 | succ k =>
  unfold Go.Lib.splitK
  split <;> simp
theorem gJ (s sub : Str) : (Go.Lib.split s sub).length <= s.length + 2 /\ ∀ p, p ∈ Go.Lib.split s sub -> p.length <= s.length := by
 have key : ∀ (k : Nat) (s : Str), (Go.Lib.splitK sub 0 k s).length <= k + 1 /\ ∀ p, p ∈ Go.Lib.splitK sub 0 k s -> p.length <= s.length := by
  intro k
  induction k with
  | zero => intro s; exact ⟨Nat.le_refl _, fun p hp => by rw [List.mem_singleton.1 hp]; exact Nat.le_refl _⟩
  | succ k ih =>
   intro s
   unfold Go.Lib.splitK
   split
   ·exact ⟨by simp, fun p hp => by rw [List.mem_singleton.1 hp]; exact Nat.le_refl _⟩
   ·obtain ⟨h1, h2⟩ := ih (s.drop ((Go.Lib.index s sub).toNat + sub.length))
    refine ⟨by simp only [List.length_cons]; omega, fun p hp => ?_⟩
    rcases List.mem_cons.1 hp with rfl | hp
    ·rw [List.length_take]; omega
    ·have := h2 p hp
     rw [List.length_drop] at this
     omega
 have hc := Go.Lib.count_le s sub
 obtain ⟨h1, h2⟩ := key (Go.Lib.count s sub) s
 exact ⟨by unfold Go.Lib.split; omega, h2⟩
end Go.Proofs.YtgfjbogcidlaeaaGreatDoor
/- Plain laws: tables out of a text: ParseData alike on both sides. -/
set_option linter.unusedSimpArgs false
set_option linter.unusedVariables false
namespace Go.Proofs.YtgfjbogcidlaeaaGreatDoor
noncomputable section
open Go.Abs Go.Proofs
theorem jH {ρ : Type} {x : Option ρ} {v : ρ} (h : ∃ r, x = some r /\ r = v) : x = some v := by
 obtain ⟨r, e, rfl⟩ := h
 exact e
theorem adP {ρ σ : Type} {x : Option ρ} {F : σ -> ρ} (h : ∃ r, x = some r /\ ∃ y, r = F y) : ∃ y, x = some (F y) := by
 obtain ⟨r, e, y, rfl⟩ := h
 exact ⟨y, e⟩
def iq {α : Type} (p : Nat -> α -> Bool) : Nat -> List α -> Bool
 | _, [] => true
 | i, x :: r => p i x && iq p (i + 1) r
theorem l9 {α X ρ : Type} {g : X -> Option (X ⊕ ρ)} (pk : Nat -> X) (xs : List α) (p : Nat -> α -> Bool) (no yes : ρ)
  (hs : ∀ i x, xs[i]? = some x -> g (pk i) = bif p i x then some (.inl (pk (i + 1))) else some (.inr no))
  (hf : g (pk xs.length) = some (.inr yes)) : ah g (pk 0) = some (bif iq p 0 xs then yes else no) := by
 have key : ∀ (ys : List α) (i : Nat), xs.drop i = ys -> i <= xs.length -> ah g (pk i) = some (bif iq p i ys then yes else no) := by
  intro ys
  induction ys with
  | nil =>
   intro i hd hi
   have h2 : xs.length <= i := List.drop_eq_nil_iff.1 hd
   have : i = xs.length := by omega
   subst this
   rw [aH, hf]; rfl
  | cons y r ih =>
   intro i hd hi
   have hx : xs[i]? = some y := by
    have := congrArg (·[0]?) hd
    simpa using this
   have hlt := (zC.1 hx).1
   rw [aH, hs i y hx]
   show _ = some (bif (p i y && iq p (i + 1) r) then yes else no)
   cases p i y with
   | true =>
    simp only [cond_true, Bool.true_and]
    refine ih (i + 1) ?_ hlt
    have := congrArg List.tail hd
    simpa using this
   | false => rfl
 exact key xs 0 rfl (Nat.zero_le _)
def ul (p : Str) : Option Int := match jL p (-1000000000) 1000000000 with
 | some (v, true) => some v
 | _ => none
theorem numI (p : Str) (hl : p.length <= 1048576) : ∃ v, jL p (-1000000000) 1000000000 = some (v, (ul p).isSome) /\ (∀ u, ul p = some u -> v = u) := by
 obtain ⟨v, ok, e, _, _⟩ := EW p (-1000000000) 1000000000 (by omega) (by omega) (by omega)
 unfold ul
 rw [e]
 cases ok with
 | true => exact ⟨v, rfl, fun u hu => by cases hu; rfl⟩
 | false => exact ⟨v, rfl, fun u hu => by cases hu⟩
theorem numS (p : Str) (hl : p.length <= 1048576) : ∃ v ok, iG p = some (v, ok) /\ (ul p).isSome = (ok && (decide (v >= -1000000000) && decide (v <= 1000000000))) /\ (∀ u, ul p = some u -> v = u) := by
 obtain ⟨v, ok, e, h1, h2⟩ := GY p (by omega)
 obtain ⟨w, ok2, e2, k1, k2⟩ := EW p (-1000000000) 1000000000 (by omega) (by omega) (by omega)
 refine ⟨v, ok, e, ?_, ?_⟩
 ·unfold ul
  rw [e2]
  cases ok2 with
  | true =>
   obtain ⟨c1, c2, c3⟩ := k1 rfl
   cases ok with
   | true =>
    obtain ⟨d1, d2, d3⟩ := h1 rfl
    have : v = w := RG ⟨d2, d3⟩ (d1.trans c1.symm) ⟨by omega, by omega⟩
    subst this
    rw [decide_eq_true c2, decide_eq_true c3]; rfl
   | false => exact absurd c1 ((h2 rfl).2 w (by omega) (by omega))
  | false =>
   cases ok with
   | false => rfl
   | true =>
    obtain ⟨d1, d2, d3⟩ := h1 rfl
    by_cases hr : v >= -1000000000 /\ v <= 1000000000
    ·exact absurd d1 ((k2 rfl).2 v hr.1 hr.2)
    ·have : (decide (v >= -1000000000) && decide (v <= 1000000000)) = false := by
      by_cases ha : v >= -1000000000
      ·rw [decide_eq_false (fun hb => hr ⟨ha, hb⟩), Bool.and_false]
      ·rw [decide_eq_false ha, Bool.false_and]
     rw [this]; rfl
 ·intro u hu
  unfold ul at hu
  rw [e2] at hu
  cases ok2 with
  | false => cases hu
  | true =>
   cases hu
   obtain ⟨c1, c2, c3⟩ := k1 rfl
   cases ok with
   | true =>
    obtain ⟨d1, d2, d3⟩ := h1 rfl
    exact RG ⟨d2, d3⟩ (d1.trans c1.symm) ⟨by omega, by omega⟩
   | false => exact absurd c1 ((h2 rfl).2 w (by omega) (by omega))
def numsOf : List Str -> Option (List Int)
 | [] => some []
 | p :: r => (ul p).bind fun v => (numsOf r).map (v :: ·)
theorem qK : ∀ (a b : List Str), numsOf (a ++ b) = (numsOf a).bind fun x => (numsOf b).map (x ++ ·)
 | [], b => by simp [numsOf]
 | p :: r, b => by
  show (ul p).bind (fun v => (numsOf (r ++ b)).map (v :: ·)) = ((ul p).bind fun v => (numsOf r).map (v :: ·)).bind fun x => (numsOf b).map (x ++ ·)
  rw [qK r b]
  cases ul p with
  | none => rfl
  | some v =>
   simp only [zA]
   cases numsOf r with
   | none => rfl
   | some x =>
    simp only [zA, Option.map_some]
    cases numsOf b <;> rfl
theorem zV : ∀ {a : List Str} {x : List Int}, numsOf a = some x -> x.length = a.length
 | [], x, h => by cases h; rfl
 | p :: r, x, h => by
  have h : (ul p).bind (fun v => (numsOf r).map (v :: ·)) = some x := h
  cases hp : ul p with
  | none => rw [hp] at h; cases h
  | some v =>
   rw [hp] at h
   simp only [zA] at h
   cases hr : numsOf r with
   | none => rw [hr] at h; cases h
   | some y =>
    rw [hr] at h
    cases h
    simp [zV hr]
theorem EM {xs : List Str} {i : Nat} {p : Str} (h : xs[i]? = some p) (hp : ul p = none) : numsOf xs = none := by
 obtain ⟨hi, rfl⟩ := zC.1 h
 have e : xs = xs.take i ++ (xs[i] :: xs.drop (i + 1)) := by rw [<- List.drop_eq_getElem_cons hi, List.take_append_drop]
 rw [e, qK]
 have : numsOf (xs[i] :: xs.drop (i + 1)) = none := by
  show (ul xs[i]).bind _ = none
  rw [hp]; rfl
 rw [this]
 cases numsOf (xs.take i) <;> rfl
theorem EL {xs : List Str} {i : Nat} {p : Str} {v : Int} {out : List Int} (h : xs[i]? = some p) (ho : numsOf (xs.take i) = some out) (hp : ul p = some v) : numsOf (xs.take (i + 1)) = some (out ++ [v]) := by
 obtain ⟨hi, rfl⟩ := zC.1 h
 rw [List.take_succ_eq_append_getElem hi, qK, ho]
 show (Option.some out).bind (fun x => ((ul xs[i]).bind fun v => (numsOf []).map (v :: ·)).map (x ++ ·)) = _
 rw [hp]; rfl
theorem abB (a : Str) (b : Int) (hl : a.length <= 100000) : sF a b = some (match numsOf (Go.Lib.split a [32]) with
  | some l => (l, (l.length : Int) == b)
  | none => ([], false)) := by
 obtain ⟨s1, s2⟩ := gJ a [32]
 unfold sF
 rw [show (32 : Int) = ((32 : UInt8).toNat : Int) from rfl, DL a 32 (by omega)]
 simp only [zA]
 generalize Go.Lib.split a [32] = ps at s1 s2
 refine jH (bH (fun (out : List Int) (i : Nat) => ((b, out, ps, (ps.length : Int), (i : Int)) : Int × (List Int) × (List Str) × Int × Int)) ps (fun i out => numsOf (ps.take i) = some out) _ (fun i p out hp hI => ?_) (fun out hI => ?_) [] rfl)
 ·have hi := (zC.1 hp).1
  obtain ⟨v, e, hv⟩ := numI p (by have := s2 p (zG hp); omega)
  simp only [bK hp, cond_true, aB, hp, zA, Int.toNat_natCast, e, bI hp (by omega)]
  cases hn : ul p with
  | none => exact .inr ⟨_, rfl, by rw [EM hp hn]⟩
  | some u =>
   have := hv u hn
   subst this
   have ho := zV hI
   rw [List.length_take] at ho
   refine .inl ⟨out ++ [v], ?_, EL hp hI hn⟩
   rw [gdp (by simp; omega)]
   rfl
 ·rw [List.take_length] at hI
  exact ⟨_, by simp only [bC, cond_false]; rfl, by rw [hI]⟩
theorem aaW (a : Str) (b : Int) (hl : a.length <= 100000) : ∃ xs, xX a b = some (match numsOf (Go.Lib.split a [32]) with
  | some l => (l, (l.length : Int) == b)
  | none => (xs, false)) := by
 obtain ⟨s1, s2⟩ := gJ a [32]
 unfold xX
 rw [show (32 : Int) = ((32 : UInt8).toNat : Int) from rfl, Dj a 32 (by omega)]
 simp only [zA]
 generalize Go.Lib.split a [32] = ps at s1 s2
 refine adP (bH (fun (out : List Int) (i : Nat) => ((b, out, ps, (i : Int)) : Int × (List Int) × (List Str) × Int)) ps (fun i out => numsOf (ps.take i) = some out) (fun r => ∃ xs, r = (match numsOf ps with
  | some l => (l, (l.length : Int) == b)
  | none => (xs, false))) (fun i p out hp hI => ?_) (fun out hI => ?_) [] rfl)
 ·have hi := (zC.1 hp).1
  obtain ⟨v, ok, e, hk, hv⟩ := numS p (by have := s2 p (zG hp); omega)
  have ho := zV hI
  rw [List.length_take] at ho
  have hnum : lC v = some (decide (v >= -1000000000) && decide (v <= 1000000000)) := by
   unfold lC
   rw [iQ]; rfl
  simp only [bK hp, cond_true, aB, hp, zA, Int.toNat_natCast, e, hnum, bI hp (by omega)]
  cases hn : ul p with
  | none =>
   rw [hn] at hk
   have hk : (ok && (decide (v >= -1000000000) && decide (v <= 1000000000))) = false := hk.symm
   refine .inr ⟨(out, false), ?_, out, by rw [EM hp hn]⟩
   cases ok with
   | false => rfl
   | true =>
    rw [Bool.true_and] at hk
    rw [hk]; rfl
  | some u =>
   have := hv u hn
   subst this
   rw [hn] at hk
   have hk : true = (ok && (decide (v >= -1000000000) && decide (v <= 1000000000))) := hk
   have hk' := hk.symm
   rw [zI] at hk'
   refine .inl ⟨out ++ [v], ?_, EL hp hI hn⟩
   rw [hk'.1, hk'.2, gdp (by simp; omega)]
   rfl
 ·rw [List.take_length] at hI
  exact ⟨_, by simp only [bC, cond_false]; rfl, [], by rw [hI]⟩
theorem aan {α : Type} (a : List α) (k : Nat) (h : k <= a.length) : eff.cutL a none (some (k : Int)) = some (a.take k) := by
 unfold eff.cutL
 simp only [Option.getD_none, Option.getD_some]
 rw [if_pos]
 ·simp
 ·omega
theorem Tj {α : Type} (x : α) (r : List α) : eff.cutL (x :: r) (some 1) none = some r := by
 unfold eff.cutL
 simp only [Option.getD_none, Option.getD_some]
 rw [if_pos]
 ·simp
 ·simp; omega
theorem Qa (b : Bool) : (bif b then true else false) = b := by cases b <;> rfl
def Nu (xs : List Str) : Bool := iq (fun i x => !((xs.take i).contains x)) 0 xs
theorem ZW (xs : List Str) (hl : xs.length <= 1048576) : oh xs = some (Nu xs) := by
 unfold oh
 refine (l9 (fun i => ((xs, xs, (xs.length : Int), (i : Int)) : (List Str) × (List Str) × Int × Int)) xs (fun i x => !((xs.take i).contains x)) false true (fun i x hx => ?_) ?_).trans (congrArg some (Qa _))
 ·have hp := Ir x xs i 0 hx
  rw [Nat.zero_add] at hp
  simp only [bK hx, cond_true, aB, hx, zA, xq xs x (by omega), bne, hp, bI hx (by omega)]
  cases (xs.take i).contains x <;> rfl
 ·simp only [bC, cond_false]
theorem YV (xs : List Str) (hl : xs.length <= 1048576) : nR xs = some (Nu xs) := by
 unfold nR
 refine (l9 (fun i => ((xs, (i : Int)) : (List Str) × Int)) xs (fun i x => !((xs.take i).contains x)) false true (fun i x hx => ?_) ?_).trans (congrArg some (Qa _))
 ·have hi := (zC.1 hx).1
  simp only [bK hx, cond_true, aB, hx, zA, aan xs i (by omega), xW (xs.take i) x (by rw [List.length_take]; omega), bI hx (by omega)]
  cases (xs.take i).contains x <;> rfl
 ·simp only [bC, cond_false]
def xE (xs : List Str) : Bool := iq (fun _ x => iU x) 0 xs && ((decide (1 <= (xs.length : Int)) && decide ((xs.length : Int) <= 4)) && Nu xs)
theorem Sv (xs : List Str) (hl : xs.length <= 1048576) (hs : ∀ x, x ∈ xs -> x.length <= 120) : ng xs = some (xE xs) := by
 unfold ng
 refine (l9 (fun i => ((xs, xs, (xs.length : Int), (i : Int)) : (List Str) × (List Str) × Int × Int)) xs (fun _ x => iU x) false ((decide (1 <= (xs.length : Int)) && decide ((xs.length : Int) <= 4)) && Nu xs) (fun i x hx => ?_) ?_).trans ?_
 ·simp only [bK hx, cond_true, aB, hx, zA, yu x (hs x (zG hx)), bI hx (by omega)]
  cases iU x <;> rfl
 ·simp only [bC, cond_false, pF, zA, ZW xs hl]
  cases (decide (1 <= (xs.length : Int)) && decide ((xs.length : Int) <= 4)) <;> rfl
 ·unfold xE
  cases iq (fun _ x => iU x) 0 xs <;> rfl
theorem QO (xs : List Str) (hl : xs.length <= 1048576) (hs : ∀ x, x ∈ xs -> x.length <= 120) : o5 xs = some (xE xs) := by
 unfold o5
 refine (l9 (fun i => ((xs, (i : Int)) : (List Str) × Int)) xs (fun _ x => iU x) false ((decide (1 <= (xs.length : Int)) && decide ((xs.length : Int) <= 4)) && Nu xs) (fun i x hx => ?_) ?_).trans ?_
 ·simp only [bK hx, cond_true, aB, hx, zA, xN x (hs x (zG hx)), bI hx (by omega)]
  cases iU x <;> rfl
 ·simp only [bC, cond_false, iQ, zA, YV xs hl]
  show _ = some (Sum.inr ((decide ((xs.length : Int) >= 1) && decide ((xs.length : Int) <= 4)) && Nu xs))
  cases (decide ((xs.length : Int) >= 1) && decide ((xs.length : Int) <= 4)) <;> rfl
 ·unfold xE
  cases iq (fun _ x => iU x) 0 xs <;> rfl
def inR (n : Int) : Bool := decide (-1000000000 <= n) && decide (n <= 1000000000)
theorem Jr (n : Int) : yx n = some (inR n) := by
 unfold yx
 rw [pF]; rfl
theorem Ub (n : Int) : lC n = some (inR n) := by
 unfold lC
 rw [iQ]; rfl
def rowB (w : Int) (r : bQ) : Bool := ((r.cells.length : Int) == w) && iq (fun _ n => inR n) 0 r.cells
def C9 (cols : List Str) (rows : List bQ) : Bool := xE cols && (decide ((rows.length : Int) <= 12) && iq (fun _ r => rowB (cols.length : Int) r) 0 rows)
theorem XW (n step : Int) (text : Str) (cols : List Str) (rows : List bQ) (hl : cols.length <= 1048576) (hs : ∀ x, x ∈ cols -> x.length <= 120) (hr : ∀ r, r ∈ rows -> r.orig = [] /\ r.cells.length <= 1048576) :
  xh ⟨5, n, step, text, [], cols, rows⟩ = some (C9 cols rows) := by
 unfold xh C9
 simp only [Sv cols hl hs, zA]
 cases xE cols with
 | false => rfl
 | true =>
  simp only [Bool.not_true, cond_false, Bool.true_and]
  by_cases h12 : (rows.length : Int) > 12
  ·rw [decide_eq_true h12, decide_eq_false (by omega)]; rfl
  ·rw [decide_eq_false h12, decide_eq_true (by omega)]
   simp only [cond_false, Bool.true_and]
   refine (l9 (fun i => ((5, n, step, text, [], cols, rows, rows, (rows.length : Int), (i : Int)) : Int × Int × Int × Str × (List bg) × (List Str) × (List bQ) × (List bQ) × Int × Int)) rows (fun _ r => rowB (cols.length : Int) r) false true (fun i r hx => ?_) ?_).trans (congrArg some (Qa _))
   ·obtain ⟨ho, hc⟩ := hr r (zG hx)
    have hup := bI hx (by omega)
    simp only [bK hx, cond_true, aB, hx, zA, ho, bne]
    unfold rowB
    cases ((r.cells.length : Int) == (cols.length : Int)) with
    | false => rfl
    | true =>
     simp only [Bool.not_true, cond_false, Bool.true_and]
     refine (l9 (fun j => ((5, n, step, text, [], cols, rows, r.cells, [], rows, (rows.length : Int), (i : Int), r.cells, (r.cells.length : Int), (j : Int)) : Int × Int × Int × Str × (List bg) × (List Str) × (List bQ) × (List Int) × (List gy) × (List bQ) × Int × Int × (List Int) × Int × Int)) r.cells (fun _ m => inR m) (Sum.inr false) (Sum.inl (5, n, step, text, [], cols, rows, rows, (rows.length : Int), ((i + 1 : Nat) : Int))) (fun j m hm => ?_) ?_).trans ?_
     ·simp only [bK hm, cond_true, aB, hm, zA, Jr, bI hm (by omega)]
      cases inR m <;> rfl
     ·simp only [bC, cond_false]
      rw [aH]
      simp only [List.length_nil, Int.ofNat_zero, Int.lt_irrefl, decide_false, cond_false, hup, zA]
     ·cases iq (fun _ m => inR m) 0 r.cells <;> rfl
   ·simp only [bC, cond_false]
theorem Y0 : nN [] = some true := by
 unfold nN
 rw [aH]; rfl
theorem Xa (n step : Int) (text : Str) (cols : List Str) (rows : List bQ) (hl : cols.length <= 1048576) (hs : ∀ x, x ∈ cols -> x.length <= 120) (hr : ∀ r, r ∈ rows -> r.orig = [] /\ r.cells.length <= 1048576) :
  Ba ⟨5, n, step, text, [], cols, rows⟩ = some (C9 cols rows) := by
 unfold Ba C9
 simp only [QO cols hl hs, zA]
 cases xE cols with
 | false => rfl
 | true =>
  simp only [Bool.not_true, cond_false, Bool.true_and]
  by_cases h12 : (rows.length : Int) > 12
  ·rw [decide_eq_true h12, decide_eq_false (by omega)]; rfl
  ·rw [decide_eq_false h12, decide_eq_true (by omega)]
   simp only [cond_false, Bool.true_and]
   refine (l9 (fun i => ((5, n, step, text, [], cols, rows, (i : Int)) : Int × Int × Int × Str × (List bg) × (List Str) × (List bQ) × Int)) rows (fun _ r => rowB (cols.length : Int) r) false true (fun i r hx => ?_) ?_).trans (congrArg some (Qa _))
   ·obtain ⟨ho, hc⟩ := hr r (zG hx)
    have hup := bI hx (by omega)
    simp only [bK hx, cond_true, aB, hx, zA, ho, Y0, bne]
    unfold rowB
    cases ((r.cells.length : Int) == (cols.length : Int)) with
    | false => rfl
    | true =>
     simp only [Bool.not_true, cond_false, Bool.true_and]
     refine (l9 (fun j => ((5, n, step, text, [], cols, rows, (i : Int), r.cells, [], (j : Int)) : Int × Int × Int × Str × (List bg) × (List Str) × (List bQ) × Int × (List Int) × (List gy) × Int)) r.cells (fun _ m => inR m) (Sum.inr false) (Sum.inl (5, n, step, text, [], cols, rows, ((i + 1 : Nat) : Int))) (fun j m hm => ?_) ?_).trans ?_
     ·simp only [bK hm, cond_true, aB, hm, zA, Ub, bI hm (by omega)]
      cases inR m <;> rfl
     ·simp only [bC, cond_false, hup]
     ·cases iq (fun _ m => inR m) 0 r.cells <;> rfl
   ·simp only [bC, cond_false]
theorem BM (cols : List Str) (rows : List bQ) (hl : cols.length <= 1048576) (hs : ∀ x, x ∈ cols -> x.length <= 120) (hr : ∀ r, r ∈ rows -> r.orig = [] /\ r.cells.length <= 1048576) :
  lX ⟨5, 0, 0, [], [], cols, rows⟩ = some (C9 cols rows) := by
 have h := XW 0 0 [] cols rows hl hs hr
 show iL ⟨5, 0, 0, [], [], cols, rows⟩ = _
 unfold iL
 simp only [h, zA]
 cases ((cols.length : Int) == 0) <;> rfl
theorem A8 (cols : List Str) (rows : List bQ) (hl : cols.length <= 1048576) (hs : ∀ x, x ∈ cols -> x.length <= 120) (hr : ∀ r, r ∈ rows -> r.orig = [] /\ r.cells.length <= 1048576) :
  lT ⟨5, 0, 0, [], [], cols, rows⟩ = some (C9 cols rows) := by
 have h := Xa 0 0 [] cols rows hl hs hr
 show iH ⟨5, 0, 0, [], [], cols, rows⟩ = _
 unfold iH
 simp only [h, zA]
 rfl
def rowOf (w : Int) (p : Str) : Option bQ := match numsOf (Go.Lib.split p [32]) with
 | some l => if (l.length : Int) == w then some ⟨l, []⟩ else none
 | none => none
def rowsOf (w : Int) : List Str -> Option (List bQ)
 | [] => some []
 | p :: r => (rowOf w p).bind fun v => (rowsOf w r).map (v :: ·)
theorem qH (w : Int) : ∀ (a b : List Str), rowsOf w (a ++ b) = (rowsOf w a).bind fun x => (rowsOf w b).map (x ++ ·)
 | [], b => by simp [rowsOf]
 | p :: r, b => by
  show (rowOf w p).bind (fun v => (rowsOf w (r ++ b)).map (v :: ·)) = ((rowOf w p).bind fun v => (rowsOf w r).map (v :: ·)).bind fun x => (rowsOf w b).map (x ++ ·)
  rw [qH w r b]
  cases rowOf w p with
  | none => rfl
  | some v =>
   simp only [zA]
   cases rowsOf w r with
   | none => rfl
   | some x =>
    simp only [zA, Option.map_some]
    cases rowsOf w b <;> rfl
theorem EH {w : Int} {xs : List Str} {i : Nat} {p : Str} (h : xs[i]? = some p) (hp : rowOf w p = none) : rowsOf w xs = none := by
 obtain ⟨hi, rfl⟩ := zC.1 h
 have e : xs = xs.take i ++ (xs[i] :: xs.drop (i + 1)) := by rw [<- List.drop_eq_getElem_cons hi, List.take_append_drop]
 rw [e, qH]
 have : rowsOf w (xs[i] :: xs.drop (i + 1)) = none := by
  show (rowOf w xs[i]).bind _ = none
  rw [hp]; rfl
 rw [this]
 cases rowsOf w (xs.take i) <;> rfl
theorem EG {w : Int} {xs : List Str} {i : Nat} {p : Str} {v : bQ} {out : List bQ} (h : xs[i]? = some p) (ho : rowsOf w (xs.take i) = some out) (hp : rowOf w p = some v) : rowsOf w (xs.take (i + 1)) = some (out ++ [v]) := by
 obtain ⟨hi, rfl⟩ := zC.1 h
 rw [List.take_succ_eq_append_getElem hi, qH, ho]
 show (Option.some out).bind (fun x => ((rowOf w xs[i]).bind fun v => (rowsOf w []).map (v :: ·)).map (x ++ ·)) = _
 rw [hp]; rfl
theorem lH {w : Int} : ∀ {a : List Str} {x : List bQ}, rowsOf w a = some x -> x.length = a.length /\ ∀ r, r ∈ x -> r.orig = [] /\ (r.cells.length : Int) = w
 | [], x, h => by cases h; exact ⟨rfl, fun r hr => by cases hr⟩
 | p :: r, x, h => by
  have h : (rowOf w p).bind (fun v => (rowsOf w r).map (v :: ·)) = some x := h
  cases hp : rowOf w p with
  | none => rw [hp] at h; cases h
  | some v =>
   rw [hp] at h
   simp only [zA] at h
   cases hr : rowsOf w r with
   | none => rw [hr] at h; cases h
   | some y =>
    rw [hr] at h
    cases h
    obtain ⟨h1, h2⟩ := lH hr
    refine ⟨by simp [h1], fun q hq => ?_⟩
    rcases List.mem_cons.1 hq with rfl | hq
    ·unfold rowOf at hp
     split at hp
     ·rename_i l _
      split at hp
      ·rename_i hlw
       cases hp
       exact ⟨rfl, by simpa using hlw⟩
      ·cases hp
     ·cases hp
    ·exact h2 q hq
theorem VP (w : Int) (p : Str) (hl : p.length <= 100000) : ∃ l ok, sF p w = some (l, ok) /\ ((ok = false /\ rowOf w p = none) \/ (ok = true /\ rowOf w p = some ⟨l, []⟩)) := by
 rw [abB p w hl]
 unfold rowOf
 cases numsOf (Go.Lib.split p [32]) with
 | none => exact ⟨_, _, rfl, .inl ⟨rfl, rfl⟩⟩
 | some l =>
  refine ⟨l, _, rfl, ?_⟩
  cases h : ((l.length : Int) == w) with
  | true => exact .inr ⟨rfl, by simpa using h⟩
  | false => exact .inl ⟨rfl, by simpa using h⟩
theorem VO (w : Int) (p : Str) (hl : p.length <= 100000) : ∃ l ok, xX p w = some (l, ok) /\ ((ok = false /\ rowOf w p = none) \/ (ok = true /\ rowOf w p = some ⟨l, []⟩)) := by
 obtain ⟨xs, e⟩ := aaW p w hl
 rw [e]
 unfold rowOf
 cases numsOf (Go.Lib.split p [32]) with
 | none => exact ⟨_, _, rfl, .inl ⟨rfl, rfl⟩⟩
 | some l =>
  refine ⟨l, _, rfl, ?_⟩
  cases h : ((l.length : Int) == w) with
  | true => exact .inr ⟨rfl, by simpa using h⟩
  | false => exact .inl ⟨rfl, by simpa using h⟩
def dataOf (p0 : Str) (ps : List Str) : bg × Bool := match rowsOf ((Go.Lib.split p0 [32]).length : Int) ps with
 | none => (⟨0, 0, 0, [], [], [], []⟩, false)
 | some rows => if C9 (Go.Lib.split p0 [32]) rows = true then (⟨5, 0, 0, [], [], Go.Lib.split p0 [32], rows⟩, true) else (⟨0, 0, 0, [], [], [], []⟩, false)
theorem Iu (a : Str) : ∃ p0 ps, Go.Lib.split a [59, 32] = p0 :: ps := List.exists_cons_of_ne_nil (YC a [59, 32])
theorem JC (a : Str) (hl : a.length <= 120) {p0 : Str} {ps : List Str} (hp : Go.Lib.split a [59, 32] = p0 :: ps) : kE a = some (dataOf p0 ps) := by
 obtain ⟨s1, s2⟩ := gJ a [59, 32]
 rw [hp] at s1 s2
 have h0 := s2 p0 (by simp)
 obtain ⟨c1, c2⟩ := gJ p0 [32]
 unfold kE dataOf
 have e1 : jc a [59, 32] = some (p0 :: ps) := by
  unfold jc
  rw [if_pos ⟨by omega, by simp⟩, hp]
 have e2 : jw p0 32 = some (Go.Lib.split p0 [32]) := DL p0 32 (by omega)
 have i0 : idx (p0 :: ps) 0 = some p0 := rfl
 have i1 : (p0 :: ps)[0]? = some p0 := rfl
 simp only [e1, i0, i1, e2, Tj, zA]
 generalize hcols : Go.Lib.split p0 [32] = cols at c1 c2
 refine jH (bH (fun (out : List bQ) (i : Nat) => ((0, 0, 0, [], [], [], [], 5, 0, 0, [], [], cols, out, ps, (ps.length : Int), (i : Int)) : Int × Int × Int × Str × (List bg) × (List Str) × (List bQ) × Int × Int × Int × Str × (List bg) × (List Str) × (List bQ) × (List Str) × Int × Int)) ps (fun i out => rowsOf (cols.length : Int) (ps.take i) = some out) _ (fun i p out hp hI => ?_) (fun out hI => ?_) [] rfl)
 ·have hpl := s2 p (List.mem_cons_of_mem _ (zG hp))
  obtain ⟨l, ok, e, hr⟩ := VP (cols.length : Int) p (by omega)
  have hpi := (zC.1 hp).1
  have hol := (lH hI).1
  rw [List.length_take] at hol
  simp only [List.length_cons] at s1
  simp only [bK hp, cond_true, aB, hp, zA, e, bI hp (by omega)]
  rcases hr with ⟨rfl, hr⟩ | ⟨rfl, hr⟩
  ·exact .inr ⟨_, rfl, by rw [EH hp hr]⟩
  ·refine .inl ⟨out ++ [⟨l, []⟩], ?_, EG hp hI hr⟩
   rw [gdp (by simp; omega)]
   rfl
 ·rw [List.take_length] at hI
  obtain ⟨hl1, hl2⟩ := lH hI
  have hv := BM cols out (by omega) (fun x hx => by have := c2 x hx; omega) (fun r hr => by have := hl2 r hr; exact ⟨this.1, by omega⟩)
  refine ⟨_, ?_, rfl⟩
  simp only [bC, cond_false, hv, zA, hI]
  cases C9 cols out <;> rfl
theorem YW (a : Str) (hl : a.length <= 120) {p0 : Str} {ps : List Str} (hp : Go.Lib.split a [59, 32] = p0 :: ps) : oZ a = some (dataOf p0 ps) := by
 obtain ⟨s1, s2⟩ := gJ a [59, 32]
 rw [hp] at s1 s2
 have h0 := s2 p0 (by simp)
 obtain ⟨c1, c2⟩ := gJ p0 [32]
 unfold oZ dataOf
 have e1 : oH a = some (p0 :: ps) := by rw [MI a (by omega), hp]
 have e2 : ku p0 32 = some (Go.Lib.split p0 [32]) := Dj p0 32 (by omega)
 have i0 : idx (p0 :: ps) 0 = some p0 := rfl
 have i1 : (p0 :: ps)[0]? = some p0 := rfl
 simp only [e1, i0, i1, e2, zA]
 generalize hcols : Go.Lib.split p0 [32] = cols at c1 c2
 refine jH (bH (fun (out : List bQ) (i : Nat) => ((0, 0, 0, [], [], [], [], p0 :: ps, 5, 0, 0, [], [], cols, out, ((i + 1 : Nat) : Int)) : Int × Int × Int × Str × (List bg) × (List Str) × (List bQ) × (List Str) × Int × Int × Int × Str × (List bg) × (List Str) × (List bQ) × Int)) ps (fun i out => rowsOf (cols.length : Int) (ps.take i) = some out) _ (fun i p out hp hI => ?_) (fun out hI => ?_) [] rfl)
 ·have hpl := s2 p (List.mem_cons_of_mem _ (zG hp))
  obtain ⟨l, ok, e, hr⟩ := VO (cols.length : Int) p (by omega)
  have hpi := (zC.1 hp).1
  have hol := (lH hI).1
  rw [List.length_take] at hol
  simp only [List.length_cons] at s1
  have d1 : decide (((i + 1 : Nat) : Int) < ((p0 :: ps).length : Int)) = true := by simp; omega
  have hx : (p0 :: ps)[i + 1]? = some p := by simpa using hp
  have hw : w64 (((i + 1 : Nat) : Int) + 1) = ((i + 1 + 1 : Nat) : Int) := by rw [bG (by omega) (by omega)]; omega
  simp only [d1, cond_true, aB, hx, zA, Int.toNat_natCast, e, hw]
  rcases hr with ⟨rfl, hr⟩ | ⟨rfl, hr⟩
  ·exact .inr ⟨_, rfl, by rw [EH hp hr]⟩
  ·refine .inl ⟨out ++ [⟨l, []⟩], ?_, EG hp hI hr⟩
   rw [gdp (by simp; omega)]
   rfl
 ·rw [List.take_length] at hI
  obtain ⟨hl1, hl2⟩ := lH hI
  have hv := A8 cols out (by omega) (fun x hx => by have := c2 x hx; omega) (fun r hr => by have := hl2 r hr; exact ⟨this.1, by omega⟩)
  have d1 : decide (((ps.length + 1 : Nat) : Int) < ((p0 :: ps).length : Int)) = false := by simp
  refine ⟨_, ?_, rfl⟩
  simp only [d1, cond_false, hv, zA, hI]
  cases C9 cols out <;> rfl
theorem Vm (a : Str) (hl : a.length <= 120) : ∃ v ok, kE a = some (v, ok) /\ oZ a = some (v, ok) /\ (ok = true -> ∃ cols rows, v = ⟨5, 0, 0, [], [], cols, rows⟩ /\ C9 cols rows = true /\ cols.length <= 122 /\ (∀ x, x ∈ cols -> x.length <= 120) /\ rows.length <= 122 /\ ∀ r, r ∈ rows -> r.orig = [] /\ r.cells.length <= 122) := by
 obtain ⟨p0, ps, hp⟩ := Iu a
 refine ⟨(dataOf p0 ps).1, (dataOf p0 ps).2, JC a hl hp, YW a hl hp, fun h => ?_⟩
 obtain ⟨s1, s2⟩ := gJ a [59, 32]
 rw [hp] at s1 s2
 simp only [List.length_cons] at s1
 have h0 := s2 p0 (by simp)
 obtain ⟨c1, c2⟩ := gJ p0 [32]
 unfold dataOf at h ⊢
 cases hr : rowsOf ((Go.Lib.split p0 [32]).length : Int) ps with
 | none => rw [hr] at h; cases h
 | some rows =>
  rw [hr] at h
  simp only at h ⊢
  by_cases ht : C9 (Go.Lib.split p0 [32]) rows = true
  ·rw [if_pos ht]
   obtain ⟨l1, l2⟩ := lH hr
   exact ⟨_, rows, rfl, ht, by omega, fun x hx => by have := c2 x hx; omega, by omega, fun r hr => by have := l2 r hr; exact ⟨this.1, by omega⟩⟩
  ·rw [if_neg ht] at h; cases h
end
end Go.Proofs.YtgfjbogcidlaeaaGreatDoor
/- Plain laws: notebooks compiled: CompileAll alike on both sides. -/
set_option linter.unusedSimpArgs false
set_option linter.unusedVariables false
namespace Go.Proofs.YtgfjbogcidlaeaaGreatDoor
open Go.Abs Go.Proofs
noncomputable def errOf (w : Int) : Nat -> List Str -> Int
 | _, [] => -1
 | i, p :: r => if ((rowOf w p).isNone || decide (12 <= i)) = true then ((i + 1 : Nat) : Int) else errOf w (i + 1) r
theorem JP (w : Int) {ps : List Str} {i : Nat} {p : Str} (h : ps[i]? = some p) : errOf w i (ps.drop i) = if ((rowOf w p).isNone || decide (12 <= i)) = true then ((i + 1 : Nat) : Int) else errOf w (i + 1) (ps.drop (i + 1)) := by
 obtain ⟨hi, rfl⟩ := zC.1 h
 rw [List.drop_eq_getElem_cons hi]
 rfl
theorem abD (a : Str) (hl : a.length <= 120) {p0 : Str} {ps : List Str} (hp : Go.Lib.split a [59, 32] = p0 :: ps) (hno : (dataOf p0 ps).2 = false) :
  uI a = some (bif xE (Go.Lib.split p0 [32]) then errOf ((Go.Lib.split p0 [32]).length : Int) 0 ps else 0) := by
 obtain ⟨s1, s2⟩ := gJ a [59, 32]
 rw [hp] at s1 s2
 have h0 := s2 p0 (by simp)
 obtain ⟨c1, c2⟩ := gJ p0 [32]
 unfold uI
 have e1 : jc a [59, 32] = some (p0 :: ps) := by
  unfold jc
  rw [if_pos ⟨by omega, by simp⟩, hp]
 have e2 : jw p0 32 = some (Go.Lib.split p0 [32]) := DL p0 32 (by omega)
 have i0 : idx (p0 :: ps) 0 = some p0 := rfl
 have i1 : (p0 :: ps)[0]? = some p0 := rfl
 have e3 : kE a = some ((dataOf p0 ps).1, false) := by rw [JC a hl hp, <- hno]
 have e4 := Sv (Go.Lib.split p0 [32]) (by omega) (fun x hx => by have := c2 x hx; omega)
 simp only [e3, cond_false, e1, i0, i1, e2, e4, Tj, zA]
 generalize Go.Lib.split p0 [32] = cols at c1 c2
 cases xE cols with
 | false => rfl
 | true =>
  simp only [Bool.not_true, cond_false, cond_true]
  refine jH (bH (fun (_ : Unit) (i : Nat) => ((cols, ps, (ps.length : Int), (i : Int)) : (List Str) × (List Str) × Int × Int)) ps (fun i _ => errOf (cols.length : Int) i (ps.drop i) = errOf (cols.length : Int) 0 ps) _ (fun i p out hx hI => ?_) (fun out hI => ?_) () rfl)
  ·have hpl := s2 p (List.mem_cons_of_mem _ (zG hx))
   obtain ⟨l, ok, e, hr⟩ := VP (cols.length : Int) p (by omega)
   simp only [List.length_cons] at s1
   have hd := JP (cols.length : Int) hx
   simp only [bK hx, cond_true, aB, hx, zA, e, bI hx (by omega)]
   rcases hr with ⟨rfl, hr⟩ | ⟨rfl, hr⟩
   ·rw [hr] at hd
    exact .inr ⟨_, rfl, by rw [<- hI, hd]; rfl⟩
   ·rw [hr] at hd
    by_cases h12 : 12 <= i
    ·have d : decide ((i : Int) >= 12) = true := by simp; omega
     rw [d]
     refine .inr ⟨_, rfl, ?_⟩
     rw [<- hI, hd, decide_eq_true h12]; rfl
    ·have d : decide ((i : Int) >= 12) = false := by simp; omega
     rw [d]
     refine .inl ⟨(), rfl, ?_⟩
     rw [<- hI, hd, decide_eq_false h12]; rfl
  ·refine ⟨_, by simp only [bC, cond_false]; rfl, ?_⟩
   rw [<- hI, List.drop_length]; rfl
theorem aa1 (a : Str) (hl : a.length <= 120) {p0 : Str} {ps : List Str} (hp : Go.Lib.split a [59, 32] = p0 :: ps) :
  tX a = some (bif xE (Go.Lib.split p0 [32]) then errOf ((Go.Lib.split p0 [32]).length : Int) 0 ps else 0) := by
 obtain ⟨s1, s2⟩ := gJ a [59, 32]
 rw [hp] at s1 s2
 have h0 := s2 p0 (by simp)
 obtain ⟨c1, c2⟩ := gJ p0 [32]
 unfold tX
 have e1 : oH a = some (p0 :: ps) := by rw [MI a (by omega), hp]
 have e2 : ku p0 32 = some (Go.Lib.split p0 [32]) := Dj p0 32 (by omega)
 have i0 : idx (p0 :: ps) 0 = some p0 := rfl
 have i1 : (p0 :: ps)[0]? = some p0 := rfl
 have e4 := QO (Go.Lib.split p0 [32]) (by omega) (fun x hx => by have := c2 x hx; omega)
 simp only [e1, i0, i1, e2, e4, zA]
 generalize Go.Lib.split p0 [32] = cols at c1 c2
 cases xE cols with
 | false => rfl
 | true =>
  simp only [Bool.not_true, cond_false, cond_true]
  refine jH (bH (fun (_ : Unit) (i : Nat) => ((p0 :: ps, cols, ((i + 1 : Nat) : Int)) : (List Str) × (List Str) × Int)) ps (fun i _ => errOf (cols.length : Int) i (ps.drop i) = errOf (cols.length : Int) 0 ps) _ (fun i p out hx hI => ?_) (fun out hI => ?_) () rfl)
  ·have hpl := s2 p (List.mem_cons_of_mem _ (zG hx))
   obtain ⟨l, ok, e, hr⟩ := VO (cols.length : Int) p (by omega)
   have hpi := (zC.1 hx).1
   simp only [List.length_cons] at s1
   have hd := JP (cols.length : Int) hx
   have d1 : decide (((i + 1 : Nat) : Int) < ((p0 :: ps).length : Int)) = true := by simp; omega
   have hx' : (p0 :: ps)[i + 1]? = some p := by simpa using hx
   have hw : w64 (((i + 1 : Nat) : Int) + 1) = ((i + 1 + 1 : Nat) : Int) := by rw [bG (by omega) (by omega)]; omega
   simp only [d1, cond_true, aB, hx', zA, Int.toNat_natCast, e, hw]
   rcases hr with ⟨rfl, hr⟩ | ⟨rfl, hr⟩
   ·rw [hr] at hd
    exact .inr ⟨_, rfl, by rw [<- hI, hd]; rfl⟩
   ·rw [hr] at hd
    by_cases h12 : 12 <= i
    ·have d : decide (((i + 1 : Nat) : Int) > 12) = true := by simp; omega
     rw [d]
     refine .inr ⟨_, rfl, ?_⟩
     rw [<- hI, hd, decide_eq_true h12]; rfl
    ·have d : decide (((i + 1 : Nat) : Int) > 12) = false := by simp; omega
     rw [d]
     refine .inl ⟨(), rfl, ?_⟩
     rw [<- hI, hd, decide_eq_false h12]; rfl
  ·have d1 : decide (((ps.length + 1 : Nat) : Int) < ((p0 :: ps).length : Int)) = false := by simp
   refine ⟨_, by simp only [d1, cond_false]; rfl, ?_⟩
   rw [<- hI, List.drop_length]; rfl
def jO (c : Int) (i : Nat) (r : bQ) : bQ := ⟨r.cells, [⟨c, (i : Int)⟩]⟩
theorem VF {ρ X : Type} {g : X -> Option (X ⊕ ρ)} (pk : List bQ -> Nat -> X) (c : Int) (rows : List bQ) (r : ρ)
  (hs : ∀ i x out, out.length = rows.length -> i < rows.length -> out[i]? = some x -> g (pk out i) = some (.inl (pk (out.set i (jO c i x)) (i + 1))))
  (hf : g (pk (gQ (jO c) 0 rows) rows.length) = some (.inr r)) : ah g (pk rows 0) = some r := by
 have key : ∀ (k i : Nat) (a b : List bQ), rows.length = i + k -> a.length = i -> b.length = k -> a ++ gQ (jO c) i b = gQ (jO c) 0 rows -> ah g (pk (a ++ b) i) = some r := by
  intro k
  induction k with
  | zero =>
   intro i a b hi ha hb he
   have : b = [] := List.length_eq_zero_iff.1 hb
   subst this
   rw [gQ, List.append_nil] at he
   rw [List.append_nil, he, aH, show i = rows.length by omega, hf]
  | succ k ih =>
   intro i a b hi ha hb he
   cases b with
   | nil => simp at hb
   | cons x b =>
    have hx : (a ++ x :: b)[i]? = some x := by rw [<- ha]; simp
    rw [aH, hs i x _ (by simp at hb ⊢; omega) (by omega) hx]
    simp only
    have hset : (a ++ x :: b).set i (jO c i x) = (a ++ [jO c i x]) ++ b := by
     rw [List.set_append_right _ _ (by omega), ha, Nat.sub_self]
     simp
    rw [hset]
    refine ih (i + 1) (a ++ [jO c i x]) b (by omega) (by simp [ha]) (by simpa using hb) ?_
    rw [List.append_assoc]
    exact he
 exact key rows.length 0 [] rows (by omega) rfl rfl rfl
theorem Zu {X ρ : Type} {f : X -> Option (X ⊕ ρ)} {x0 : X} {q : Option ρ} {v : ρ} (h : f x0 = q.bind fun r => some (.inr r)) (hq : q = some v) : ah f x0 = some v := by
 rw [aH, h, hq]; rfl
theorem ZT (r : bQ) (h : r.cells.length <= 1048576) (h2 : r.orig.length <= 1048576) : BX r = some r := by
 unfold BX
 rw [gdp (by omega), zA, gdp (by omega), zA]
 cases r; rfl
theorem YM (r : bQ) (h : r.cells.length <= 1048576) (h2 : r.orig.length <= 1048576) : Ox r = some r := by
 unfold Ox
 rw [gdp (by omega), zA, gdp (by omega), zA]
 cases r; rfl
theorem Bq (v : bg) : gG v = v := by cases v; rfl
structure aaH (cols : List Str) (rows : List bQ) : Prop where
 cl : cols.length <= 122
 ct : ∀ x, x ∈ cols -> x.length <= 120
 rl : rows.length <= 122
 rr : ∀ r, r ∈ rows -> r.orig = [] /\ r.cells.length <= 122
theorem ZX (cols : List Str) (rows : List bQ) (h : aaH cols rows) : uK ⟨5, 0, 0, [], [], cols, rows⟩ = some ⟨5, 0, 0, [], [], cols, rows⟩ := by
 have hc := h.cl
 have hr := h.rl
 unfold uK
 obtain ⟨m, hm⟩ : ∃ m, siz (⟨5, 0, 0, [], [], cols, rows⟩ : bg) + 1 = m + 1 + 1 := ⟨siz (⟨5, 0, 0, [], [], cols, rows⟩ : bg) - 1, by
  have : 1 <= siz (⟨5, 0, 0, [], [], cols, rows⟩ : bg) := by simp only [siz]; rw [bg.mk.sizeOf_spec]; omega
  omega⟩
 rw [hm]
 show xw (dN (m + 1)).1 (dN (m + 1)).2 _ = _
 unfold xw
 have h0 : (dN (m + 1)).2 [] = some [] := by
  show uJ (dN m).1 (dN m).2 [] = _
  unfold uJ
  rw [aH]; rfl
 have hg : gd (0 + cols.length) = some () := gdp (by omega)
 simp only [h0, hg, zA]
 refine V5 (fun (out : List bQ) (i : Nat) => ((0, 0, 0, [], [], [], [], 5, 0, 0, [], [], [] ++ cols, out, rows, (rows.length : Int), (i : Int)) : Int × Int × Int × Str × (List bg) × (List Str) × (List bQ) × Int × Int × Int × Str × (List bg) × (List Str) × (List bQ) × (List bQ) × Int × Int)) rows (fun _ r => r) _ (fun i r out hx ho => ?_) ?_
 ·obtain ⟨q1, q2⟩ := h.rr r (zG hx)
  have hi := (zC.1 hx).1
  simp only [bK hx, cond_true, aB, hx, zA, ZT r (by omega) (by rw [q1]; simp), bI hx (by omega)]
  rw [gdp (by simp; omega)]
  rfl
 ·simp only [bC, cond_false, zZ]
  rfl
theorem YX (cols : List Str) (rows : List bQ) (h : aaH cols rows) : Oy ⟨5, 0, 0, [], [], cols, rows⟩ = some ⟨5, 0, 0, [], [], cols, rows⟩ := by
 have hc := h.cl
 have hr := h.rl
 show G6 (Bc _) _ = _
 unfold G6
 have hg : gd (0 + cols.length) = some () := gdp (by omega)
 simp only [hg, zA]
 refine Zu (by simp only [List.length_nil, Int.ofNat_zero, Int.lt_irrefl, decide_false, cond_false]; rfl) ?_
 refine V5 (fun (out : List bQ) (i : Nat) => ((5, 0, 0, [], [], cols, rows, 0, 0, 0, [], [], [], [], 5, 0, 0, [], [], [] ++ cols, out, (i : Int)) : Int × Int × Int × Str × (List bg) × (List Str) × (List bQ) × Int × Int × Int × Str × (List bg) × (List Str) × (List bQ) × Int × Int × Int × Str × (List bg) × (List Str) × (List bQ) × Int)) rows (fun _ r => r) _ (fun i r out hx ho => ?_) ?_
 ·obtain ⟨q1, q2⟩ := h.rr r (zG hx)
  have hi := (zC.1 hx).1
  simp only [bK hx, cond_true, aB, hx, zA, YM r (by omega) (by rw [q1]; simp), bI hx (by omega)]
  rw [gdp (by simp; omega)]
  rfl
 ·simp only [bC, cond_false, zZ]
  rfl
theorem U3 (c : Int) (hc : 0 <= c) (cols : List Str) (rows : List bQ) (h : aaH cols rows) (hv : C9 cols rows = true) : nX c ⟨5, 0, 0, [], [], cols, rows⟩ = some ⟨5, 0, 0, [], [], cols, gQ (jO c) 0 rows⟩ := by
 have hcl := h.cl
 have hrl := h.rl
 have h1 := BM cols rows (by omega) h.ct (fun r hr => by have := h.rr r hr; exact ⟨this.1, by omega⟩)
 have d : decide (c < 0) = false := by simp; omega
 unfold nX
 simp only [Bq, h1, hv, ZX cols rows h, d, zA, Bool.not_true, cond_false]
 refine (VF (fun (out : List bQ) (i : Nat) => ((c, 0, 0, 0, [], [], [], [], 5, 0, 0, [], [], cols, out, (rows.length : Int), (i : Int)) : Int × Int × Int × Int × Str × (List bg) × (List Str) × (List bQ) × Int × Int × Int × Str × (List bg) × (List Str) × (List bQ) × Int × Int)) c rows _ (fun i x out hl hi hx => ?_) ?_)
 ·have d1 : decide ((i : Int) < (rows.length : Int)) = true := by simp; omega
  have hw : w64 ((i : Int) + 1) = ((i + 1 : Nat) : Int) := by rw [bG (by omega) (by omega)]; omega
  simp only [d1, cond_true, aB, hx, zA, Int.toNat_natCast, hw]
  rfl
 ·simp only [bC, cond_false]
theorem TW (c : Int) (hc : 0 <= c) (cols : List Str) (rows : List bQ) (h : aaH cols rows) (hv : C9 cols rows = true) : nM c ⟨5, 0, 0, [], [], cols, rows⟩ = some ⟨5, 0, 0, [], [], cols, gQ (jO c) 0 rows⟩ := by
 have hcl := h.cl
 have hrl := h.rl
 have h1 := A8 cols rows (by omega) h.ct (fun r hr => by have := h.rr r hr; exact ⟨this.1, by omega⟩)
 have d : decide (c < 0) = false := by simp; omega
 unfold nM
 simp only [Bq, h1, hv, YX cols rows h, d, zA, Bool.not_true, cond_false]
 refine (VF (fun (out : List bQ) (i : Nat) => ((c, 0, 0, 0, [], [], [], [], 5, 0, 0, [], [], cols, out, (i : Int)) : Int × Int × Int × Int × Str × (List bg) × (List Str) × (List bQ) × Int × Int × Int × Str × (List bg) × (List Str) × (List bQ) × Int)) c rows _ (fun i x out hl hi hx => ?_) ?_)
 ·have d1 : decide ((i : Int) < (out.length : Int)) = true := by simp; omega
  have hw : w64 ((i : Int) + 1) = ((i + 1 : Nat) : Int) := by rw [bG (by omega) (by omega)]; omega
  simp only [d1, cond_true, aB, hx, zA, Int.toNat_natCast, hw]
  rfl
 ·have d1 : decide ((rows.length : Int) < ((gQ (jO c) 0 rows).length : Int)) = false := by rw [wP]; simp
  simp only [d1, cond_false]
theorem Bz (a : Str) (h : a.length <= 1048576) : ∃ v, nZ a = some v /\ jD a = some v /\ (v = true -> a.length <= 120) := by
 have e : nZ a = jD a := rfl
 rw [e]
 have key : ∃ v, jD a = some v /\ (v = true -> a.length <= 120) := by
  unfold jD
  refine bH (fun (_ : Unit) (i : Nat) => ((a, (i : Int)) : Str × Int)) a (fun _ _ => True) _ (fun i x s hx hI => ?_) (fun s hI => ?_) () trivial
  ·simp only [bK hx, cond_true, aB, hx, zA, bI hx (by omega)]
   cases decide ((x.toNat : Int) < 32) with
   | true => exact .inr ⟨false, rfl, fun h => (by cases h)⟩
   | false =>
    cases decide ((x.toNat : Int) > 126) with
    | true => exact .inr ⟨false, rfl, fun h => (by cases h)⟩
    | false => exact .inl ⟨(), rfl, trivial⟩
  ·refine ⟨_, by simp only [bC, cond_false]; rfl, fun h => ?_⟩
   simp at h; omega
 obtain ⟨v, e1, h1⟩ := key
 exact ⟨v, e1, e1, h1⟩
structure NK (c : aV) : Prop where
 id0 : 1 <= c.id
 id9 : c.id <= 999
 v0 : 1 <= c.version
 v9 : c.version <= 999
 code : c.code.length <= 120
 kind : c.kind = 1 \/ c.kind = 2 \/ c.kind = 3 \/ c.kind = 4
 name : c.name.length <= 8
theorem Wj {a b c : Int} (h : (decide (b <= a) && decide (a <= c)) = true) : b <= a /\ a <= c := by simpa using h
theorem Ak (c : aV) (hn : c.name.length <= 1048576) (hc : c.code.length <= 1048576) : ∃ b, dV c = some b /\ iW c = some b /\ (b = true -> NK c) := by
 obtain ⟨v, p1, p2, p3⟩ := Bz c.code hc
 obtain ⟨u, q1⟩ := sW c.name (by omega)
 have q2 : bU c.name = some u := by rw [<- vS c.name (by omega), q1]
 have w1 : ∀ a b d : Int, qg a b d = jh a b d := fun a b d => (L8 a b d).symm
 unfold dV iW
 simp only [w1, pF, p1, p2, q1, q2, zA]
 cases h1 : (decide (1 <= c.id) && decide (c.id <= 999)) with
 | false => exact ⟨false, rfl, rfl, fun h => (by cases h)⟩
 | true =>
  cases h2 : (decide (1 <= c.version) && decide (c.version <= 999)) with
  | false => exact ⟨false, rfl, rfl, fun h => (by cases h)⟩
  | true =>
   cases v with
   | false => exact ⟨false, rfl, rfl, fun h => (by cases h)⟩
   | true =>
    have g1 := Wj h1
    have g2 := Wj h2
    have g3 := p3 rfl
    simp only [Bool.not_true, cond_false]
    have no : ∃ b : Bool, (some false : Option Bool) = some b /\ (some false : Option Bool) = some b /\ (b = true -> NK c) := ⟨false, rfl, rfl, fun h => (by cases h)⟩
    have named : ∀ z : Option Bool, (∃ b, z = some b) -> (c.kind = 1 \/ c.kind = 2 \/ c.kind = 3 \/ c.kind = 4) -> ∃ b : Bool, (bif u then z else some false) = some b /\ (bif u then z else some false) = some b /\ (b = true -> NK c) := by
     intro z hz hk
     obtain ⟨b, rfl⟩ := hz
     cases u with
     | false => exact no
     | true => exact ⟨b, rfl, rfl, fun _ => ⟨g1.1, g1.2, g2.1, g2.2, g3, hk, Qj c.name (by omega) q1⟩⟩
    cases k1 : (c.kind == 1) with
    | true =>
     simp only [cond_true]
     have hk : c.kind = 1 := eq_of_beq k1
     cases hnm : (c.name == []) with
     | false => exact no
     | true => exact ⟨_, rfl, rfl, fun _ => ⟨g1.1, g1.2, g2.1, g2.2, g3, .inl hk, by rw [eq_of_beq hnm]; simp⟩⟩
    | false =>
     simp only [cond_false]
     cases k2 : (c.kind == 2) with
     | true => exact named _ ⟨_, rfl⟩ (.inr (.inl (eq_of_beq k2)))
     | false =>
      simp only [cond_false]
      cases k4 : (c.kind == 4) with
      | true => exact named _ ⟨_, rfl⟩ (.inr (.inr (.inr (eq_of_beq k4))))
      | false =>
       simp only [cond_false]
       cases k3 : (c.kind == 3) with
       | true =>
        refine named _ ?_ (.inr (.inr (.inl (eq_of_beq k3))))
        cases (c.code == []) <;> exact ⟨_, rfl⟩
       | false => exact no
structure zh (p : aF) : Prop where
 expr : p.kind = 2 -> Aq p.expr /\ wtE p.expr <= 40
 name : p.name.length <= 8
theorem rD (p : aF) : kR p = p := by
 unfold kR
 rw [bF, Bq]
theorem CJ (c : aV) (hv : dV c = some true) (hs : iW c = some true) (hp : NK c) : ∃ p, ja c = some p /\ jE c = some p /\ zh p := by
 have ne : ∀ (k : Int) (n : Str) (e : af) (v : bg) (a : Int), ¬ k = 2 -> n.length <= 8 -> zh ⟨k, n, e, v, a⟩ := fun k n e v a hk hn => ⟨fun h => absurd h hk, hn⟩
 unfold ja jE
 simp only [hv, hs, zA, Bool.not_true, cond_false, uH, tC, jA, jo, Bq, bF]
 rcases hp.kind with k | k | k | k
 ·rw [k]
  exact ⟨_, rfl, rfl, ne _ _ _ _ _ (by decide) (by simp)⟩
 ·rw [k]
  obtain ⟨e, p, h1, h2, h3⟩ := QZ c.code
  simp only [h1, h2, zA]
  by_cases hp0 : p >= 0
  ·rw [decide_eq_true hp0]
   exact ⟨_, rfl, rfl, ne _ _ _ _ _ (by decide) hp.name⟩
  ·rw [decide_eq_false hp0]
   exact ⟨_, rfl, rfl, ⟨fun _ => h3 (by omega), hp.name⟩⟩
 ·rw [k]
  exact ⟨_, rfl, rfl, ne _ _ _ _ _ (by decide) hp.name⟩
 ·rw [k]
  obtain ⟨v, ok, h1, h2, h3⟩ := Vm c.code hp.code
  simp only [h1, h2, zA]
  cases ok with
  | false =>
   obtain ⟨p0, ps, hps⟩ := Iu c.code
   have hno : (dataOf p0 ps).2 = false := by
    have := (JC c.code hp.code hps).symm.trans h1
    injection this with this
    rw [this]
   rw [abD c.code hp.code hps hno, aa1 c.code hp.code hps]
   exact ⟨_, rfl, rfl, ne _ _ _ _ _ (by decide) hp.name⟩
  | true =>
   obtain ⟨cols, rows, rfl, ht, t1, t2, t3, t4⟩ := h3 rfl
   have hT : aaH cols rows := ⟨t1, t2, t3, t4⟩
   have hid := hp.id0
   rw [U3 c.id (by omega) cols rows hT ht, TW c.id (by omega) cols rows hT ht]
   exact ⟨_, rfl, rfl, ne _ _ _ _ _ (by decide) hp.name⟩
def yJ (id : Int) : Nat -> List aV -> Int
 | _, [] => -1
 | i, c :: r => if (c.id == id) = true then (i : Int) else yJ id (i + 1) r
theorem MW (id : Int) {cs : List aV} {i : Nat} {c : aV} (h : cs[i]? = some c) : yJ id i (cs.drop i) = if (c.id == id) = true then (i : Int) else yJ id (i + 1) (cs.drop (i + 1)) := by
 obtain ⟨hi, rfl⟩ := zC.1 h
 rw [List.drop_eq_getElem_cons hi]
 rfl
theorem aeA (cs : List aV) (id : Int) (hl : cs.length <= 1048576) : uM ⟨cs⟩ id = some (yJ id 0 cs) := by
 unfold uM
 refine jH (bH (fun (_ : Unit) (i : Nat) => ((id, cs, (cs.length : Int), (i : Int)) : Int × List aV × Int × Int)) cs (fun i _ => yJ id i (cs.drop i) = yJ id 0 cs) _ (fun i c s hx hI => ?_) (fun s hI => ?_) () rfl)
 ·have hd := MW id hx
  simp only [bK hx, cond_true, aB, hx, zA, bI hx (by omega)]
  cases hc : (c.id == id) with
  | true => exact .inr ⟨_, rfl, by rw [<- hI, hd, hc]; rfl⟩
  | false => exact .inl ⟨(), rfl, by rw [<- hI, hd, hc]; rfl⟩
 ·exact ⟨_, by simp only [bC, cond_false]; rfl, by rw [<- hI, List.drop_length]; rfl⟩
theorem aef (cs : List aV) (id : Int) (hl : cs.length <= 1048576) : tY ⟨cs⟩ id = some (yJ id 0 cs) := by
 unfold tY
 refine jH (bH (fun (_ : Unit) (i : Nat) => ((id, cs, (i : Int)) : Int × List aV × Int)) cs (fun i _ => yJ id i (cs.drop i) = yJ id 0 cs) _ (fun i c s hx hI => ?_) (fun s hI => ?_) () rfl)
 ·have hd := MW id hx
  simp only [bK hx, cond_true, aB, hx, zA, bI hx (by omega)]
  cases hc : (c.id == id) with
  | true => exact .inr ⟨_, rfl, by rw [<- hI, hd, hc]; rfl⟩
  | false => exact .inl ⟨(), rfl, by rw [<- hI, hd, hc]; rfl⟩
 ·exact ⟨_, by simp only [bC, cond_false]; rfl, by rw [<- hI, List.drop_length]; rfl⟩
structure xH (c : aV) : Prop where
 name : c.name.length <= 1048576
 code : c.code.length <= 1048576
noncomputable def cellV (c : aV) : Bool := (dV c).getD false
theorem Gg (c : aV) (h : xH c) : dV c = some (cellV c) := by
 obtain ⟨b, h1, _⟩ := Ak c h.name h.code
 unfold cellV
 rw [h1]; rfl
theorem P7 (c : aV) (h : xH c) : iW c = some (cellV c) := by
 obtain ⟨b, h1, h2, _⟩ := Ak c h.name h.code
 unfold cellV
 rw [h1, h2]; rfl
theorem abZ (c : aV) (h : xH c) (hv : cellV c = true) : NK c := by
 obtain ⟨b, h1, _, h3⟩ := Ak c h.name h.code
 refine h3 ?_
 unfold cellV at hv
 rw [h1] at hv
 exact hv
noncomputable def zf (cs : List aV) : Bool := iq (fun i c => cellV c && (yJ c.id 0 cs == (i : Int))) 0 cs && decide ((cs.length : Int) <= 8)
theorem Cb (cs : List aV) (hl : cs.length <= 1048576) (h : ∀ c, c ∈ cs -> xH c) : fQ ⟨cs⟩ = some (zf cs) := by
 unfold fQ zf
 refine (l9 (fun i => ((cs, cs, (cs.length : Int), (i : Int)) : List aV × List aV × Int × Int)) cs (fun i c => cellV c && (yJ c.id 0 cs == (i : Int))) false (decide ((cs.length : Int) <= 8)) (fun i c hx => ?_) ?_).trans ?_
 ·simp only [bK hx, cond_true, aB, hx, zA, Gg c (h c (zG hx)), aeA cs c.id hl, bne, bI hx (by omega)]
  cases cellV c <;> cases (yJ c.id 0 cs == (i : Int)) <;> rfl
 ·simp only [bC, cond_false]
 ·cases iq (fun i c => cellV c && (yJ c.id 0 cs == (i : Int))) 0 cs <;> rfl
theorem YZ (cs : List aV) (hl : cs.length <= 1048576) (h : ∀ c, c ∈ cs -> xH c) : iI ⟨cs⟩ = some (zf cs) := by
 unfold iI zf
 refine (l9 (fun i => ((cs, (i : Int)) : List aV × Int)) cs (fun i c => cellV c && (yJ c.id 0 cs == (i : Int))) false (decide ((cs.length : Int) <= 8)) (fun i c hx => ?_) ?_).trans ?_
 ·simp only [bK hx, cond_true, aB, hx, zA, P7 c (h c (zG hx)), aef cs c.id hl, bne, bI hx (by omega)]
  cases cellV c <;> cases (yJ c.id 0 cs == (i : Int)) <;> rfl
 ·simp only [bC, cond_false]
 ·cases iq (fun i c => cellV c && (yJ c.id 0 cs == (i : Int))) 0 cs <;> rfl
theorem Fe {α : Type} {p : Nat -> α -> Bool} : ∀ {i : Nat} {xs : List α}, iq p i xs = true -> ∀ x, x ∈ xs -> ∃ j, p j x = true
 | i, y :: r, h, x, hx => by
  have h : (p i y && iq p (i + 1) r) = true := h
  rw [zI] at h
  rcases List.mem_cons.1 hx with rfl | hx
  ·exact ⟨i, h.1⟩
  ·exact Fe h.2 x hx
theorem Am {cs : List aV} (h : ∀ c, c ∈ cs -> xH c) (hv : zf cs = true) : cs.length <= 8 /\ ∀ c, c ∈ cs -> cellV c = true /\ NK c := by
 unfold zf at hv
 rw [zI] at hv
 have h8 := of_decide_eq_true hv.2
 refine ⟨by omega, fun c hc => ?_⟩
 obtain ⟨j, hj⟩ := Fe hv.1 c hc
 rw [zI] at hj
 exact ⟨hj.1, abZ c (h c hc) hj.1⟩
theorem LY (cs : List aV) (hl : cs.length <= 1048576) (h : ∀ c, c ∈ cs -> xH c) : ∃ ps, fP ⟨cs⟩ = some ps /\ mQ ⟨cs⟩ = some ps /\ (∀ p, p ∈ ps -> zh p) /\ (zf cs = true -> ps.length = cs.length) /\ ps.length <= 8 := by
 unfold fP mQ
 simp only [Cb cs hl h, YZ cs hl h, zA]
 cases hv : zf cs with
 | false => exact ⟨[], rfl, rfl, fun p hp => (by cases hp), fun h => (by cases h), by simp⟩
 | true =>
  obtain ⟨h8, hcv⟩ := Am h hv
  simp only [Bool.not_true, cond_false]
  have pt : ∀ c, c ∈ cs -> ∃ p, ja c = some p /\ jE c = some p /\ zh p := fun c hc => by
   obtain ⟨q1, q2⟩ := hcv c hc
   exact CJ c (by rw [Gg c (h c hc), q1]) (by rw [P7 c (h c hc), q1]) q2
  have key := VA (ρ := List aF) (f := fun (x2 : (List aF) × (List aV) × Int × Int) =>
   bif (decide (x2.2.2.2 < x2.2.2.1)) then
    (idx x2.2.1 x2.2.2.2).bind fun e3 =>
    (ja e3).bind fun r4 =>
    (gd (x2.1.length + [kR r4].length)).bind fun _ =>
    some (.inl (x2.1 ++ [kR r4], x2.2.1, x2.2.2.1, w64 (x2.2.2.2 + 1)))
   else
    some (.inr (x2.1))) (g := fun (x2 : (List aV) × (List aF) × Int) =>
   bif (decide (x2.2.2 < (x2.1.length : Int))) then
    (idx x2.1 x2.2.2).bind fun e3 =>
    (jE e3).bind fun r4 =>
    (gd (x2.2.1.length + [kR r4].length)).bind fun _ =>
    some (.inl (x2.1, x2.2.1 ++ [kR r4], w64 (x2.2.2 + 1)))
   else
    some (.inr (x2.2.1))) (fun (out : List aF) (i : Nat) => ((out, cs, (cs.length : Int), (i : Int)) : (List aF) × (List aV) × Int × Int)) (fun (out : List aF) (i : Nat) => ((cs, out, (i : Int)) : (List aV) × (List aF) × Int)) cs (fun i out => out.length = i /\ ∀ p, p ∈ out -> zh p) (fun ps => ps.length = cs.length /\ ∀ p, p ∈ ps -> zh p) (fun i c out hx hI => .inl ?_) (fun out hI => ⟨out, by simp only [bC, cond_false], by simp only [bC, cond_false], hI⟩) [] ⟨rfl, fun p hp => (by cases hp)⟩
  ·obtain ⟨ps, e1, e2, r1, r2⟩ := key
   exact ⟨ps, e1, e2, r2, fun _ => r1, by omega⟩
  ·obtain ⟨p, c1, c2, c3⟩ := pt c (zG hx)
   have hi := (zC.1 hx).1
   have hg : gd (out.length + [p].length) = some () := gdp (by simp; omega)
   refine ⟨out ++ [p], ?_, ?_, by simp [hI.1], fun q hq => ?_⟩
   ·simp only [bK hx, cond_true, aB, hx, zA, c1, rD, hg, bI hx (by omega)]
   ·simp only [bK hx, cond_true, aB, hx, zA, c2, rD, hg, bI hx (by omega)]
   ·rcases List.mem_append.1 hq with hq | hq
    ·exact hI.2 q hq
    ·rw [List.mem_singleton.1 hq]; exact c3
end Go.Proofs.YtgfjbogcidlaeaaGreatDoor
/- Plain laws: what a part uses, and who defines a name: the two programs alike. -/
set_option linter.unusedSimpArgs false
set_option linter.unusedVariables false
namespace Go.Proofs.YtgfjbogcidlaeaaGreatDoor
open Go.Abs Go.Proofs
noncomputable def kZ (p : aF) : List Str := (xO p).getD []
theorem Vz (p : aF) (h : zh p) : BN p = some (kZ p) /\ xO p = some (kZ p) /\ (kZ p).length <= 1000 := by
 have key : ∃ ys, BN p = some ys /\ xO p = some ys /\ ys.length <= 1000 := by
  unfold BN xO
  by_cases hk : p.kind = 2
  ·have e : (p.kind != 2) = false := by rw [hk]; rfl
   obtain ⟨hv, hw⟩ := h.expr hk
   obtain ⟨ys, h1, h2, _, h4, _⟩ := FO p.expr (by omega)
   rw [e]
   simp only [cond_false, bF, h1, h2, zA]
   exact ⟨ys, rfl, rfl, by omega⟩
  ·have e : (p.kind != 2) = true := by simpa using hk
   rw [e]
   exact ⟨[], rfl, rfl, by simp⟩
 obtain ⟨ys, h1, h2, h3⟩ := key
 have e : kZ p = ys := by unfold kZ; rw [h2]; rfl
 rw [e]
 exact ⟨h1, h2, h3⟩
def cO (b : Str) : Nat -> List aF -> List Int
 | _, [] => []
 | i, p :: r => if ((p.kind != 1) && (p.name == b)) = true then (i : Int) :: cO b (i + 1) r else cO b (i + 1) r
theorem Ti (b : Str) {ps : List aF} {i : Nat} {p : aF} (h : ps[i]? = some p) : cO b i (ps.drop i) = if ((p.kind != 1) && (p.name == b)) = true then (i : Int) :: cO b (i + 1) (ps.drop (i + 1)) else cO b (i + 1) (ps.drop (i + 1)) := by
 obtain ⟨hi, rfl⟩ := zC.1 h
 rw [List.drop_eq_getElem_cons hi]
 rfl
theorem uO (b : Str) : ∀ (ps : List aF) (i : Nat) (k : Int), k ∈ cO b i ps -> (i : Int) <= k /\ k < ((i + ps.length : Nat) : Int)
 | [], i, k, h => by cases h
 | p :: r, i, k, h => by
  unfold cO at h
  split at h
  ·rcases List.mem_cons.1 h with rfl | h
   ·simp; omega
   ·have := uO b r (i + 1) k h
    simp only [List.length_cons]; omega
  ·have := uO b r (i + 1) k h
   simp only [List.length_cons]; omega
theorem Nw {b : Str} {ps : List aF} {i : Nat} {p : aF} (hx : ps[i]? = some p) {out : List Int} (hI : out ++ cO b i (ps.drop i) = cO b 0 ps) :
  (if ((p.kind != 1) && (p.name == b)) = true then out ++ [(i : Int)] else out) ++ cO b (i + 1) (ps.drop (i + 1)) = cO b 0 ps := by
 rw [<- hI, Ti b hx]
 split
 ·rw [List.append_assoc]; rfl
 ·rfl
theorem Ry {c : Bool} {out : List Int} {i : Nat} (h : out.length <= i) : (if c = true then out ++ [(i : Int)] else out).length <= i + 1 := by
 split
 ·simp; omega
 ·omega
theorem Wq (ps : List aF) (b : Str) (hl : ps.length <= 1048576) : oL ps b = some (cO b 0 ps) := by
 unfold oL
 refine jH (bH (fun (out : List Int) (i : Nat) => ((b, out, ps, (ps.length : Int), (i : Int)) : Str × (List Int) × (List aF) × Int × Int)) ps (fun i out => out ++ cO b i (ps.drop i) = cO b 0 ps /\ out.length <= i) _ (fun i p out hx hI => .inl ?_) (fun out hI => ?_) [] ⟨rfl, Nat.le_refl _⟩)
 ·have hi := (zC.1 hx).1
  have hg : ∀ n : Int, gd (out.length + [n].length) = some () := fun n => gdp (by simp; omega)
  refine ⟨if ((p.kind != 1) && (p.name == b)) = true then out ++ [(i : Int)] else out, ?_, Nw hx hI.1, Ry hI.2⟩
  simp only [bK hx, cond_true, aB, hx, zA, hg, bI hx (by omega)]
  cases (p.kind != 1) <;> cases (p.name == b) <;> rfl
 ·refine ⟨out, by simp only [bC, cond_false], ?_⟩
  have := hI.1
  rw [List.drop_length] at this
  simpa [cO] using this
theorem aa2 (ps : List aF) (b : Str) (hl : ps.length <= 1048576) : qZ ps b = some (cO b 0 ps) := by
 unfold qZ
 refine jH (bH (fun (out : List Int) (i : Nat) => ((ps, b, out, (i : Int)) : (List aF) × Str × (List Int) × Int)) ps (fun i out => out ++ cO b i (ps.drop i) = cO b 0 ps /\ out.length <= i) _ (fun i p out hx hI => .inl ?_) (fun out hI => ?_) [] ⟨rfl, Nat.le_refl _⟩)
 ·have hi := (zC.1 hx).1
  have hg : ∀ n : Int, gd (out.length + [n].length) = some () := fun n => gdp (by simp; omega)
  refine ⟨if ((p.kind != 1) && (p.name == b)) = true then out ++ [(i : Int)] else out, ?_, Nw hx hI.1, Ry hI.2⟩
  simp only [bK hx, cond_true, aB, hx, zA, hg, bI hx (by omega)]
  cases (p.kind != 1) <;> cases (p.name == b) <;> rfl
 ·refine ⟨out, by simp only [bC, cond_false], ?_⟩
  have := hI.1
  rw [List.drop_length] at this
  simpa [cO] using this
def mV : List Int -> Int
 | [] => -1
 | [k] => k
 | _ => -2
theorem abC (ps : List aF) (b : Str) (hl : ps.length <= 1048576) : BO ps b = some (mV (cO b 0 ps)) := by
 unfold BO
 rw [Wq ps b hl, zA]
 cases cO b 0 ps with
 | nil => rfl
 | cons k r => cases r with
  | nil => rfl
  | cons k2 r =>
   have e1 : (((k :: k2 :: r).length : Int) == 0) = false := by simp; omega
   have e2 : (((k :: k2 :: r).length : Int) == 1) = false := by simp; omega
   rw [e1, e2]; rfl
theorem VL (ps : List aF) (b : Str) (hl : ps.length <= 1048576) : wu ps b = some (mV (cO b 0 ps)) := by
 unfold wu
 rw [aa2 ps b hl, zA]
 cases cO b 0 ps with
 | nil => rfl
 | cons k r => cases r with
  | nil => rfl
  | cons k2 r =>
   have e1 : (((k :: k2 :: r).length : Int) == 0) = false := by simp; omega
   have e2 : (((k :: k2 :: r).length : Int) == 1) = false := by simp; omega
   rw [e1, e2]; rfl
theorem adI (ps : List aF) (b : Str) (h : 0 <= mV (cO b 0 ps)) : ∃ k : Nat, mV (cO b 0 ps) = k /\ k < ps.length := by
 cases hd : cO b 0 ps with
 | nil => rw [hd] at h; exact absurd h (by decide)
 | cons k r => cases r with
  | nil =>
   have := uO b ps 0 k (by rw [hd]; simp)
   exact ⟨k.toNat, by show k = _; omega, by omega⟩
  | cons k2 r => rw [hd] at h; exact absurd h (by show ¬ (0 : Int) <= -2; decide)
end Go.Proofs.YtgfjbogcidlaeaaGreatDoor
