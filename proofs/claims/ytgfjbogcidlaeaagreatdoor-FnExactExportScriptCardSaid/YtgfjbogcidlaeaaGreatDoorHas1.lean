import Derived.Test.YtgfjbogcidlaeaaGreatDoorPlain1
import Derived.Test.YtgfjbogcidlaeaaGreatDoorReach0
/- hasInt looks a number up. -/
set_option linter.unusedSimpArgs false
set_option linter.unusedVariables false
namespace Go.Proofs.YtgfjbogcidlaeaaGreatDoor
open Go.Abs Go.Proofs
theorem Ql {xs : List Int} {i : Nat} {x b : Int} (h : xs[i]? = some x) (h1 : (xs.take i).contains b = false) (h2 : (x == b) = false) : (xs.take (i + 1)).contains b = false := by
 obtain ⟨hi, rfl⟩ := zC.1 h
 rw [List.take_add_one, h]
 simp only [List.contains_eq_mem, decide_eq_false_iff_not, List.mem_append, Option.toList_some, List.mem_singleton, not_or] at h1 ⊢
 exact ⟨h1, fun e => by rw [<- e] at h2; simp at h2⟩
theorem Ym {n : Nat} (h : n <= 34359738368) : w64 ((n : Int) + 1) = ((n + 1 : Nat) : Int) := by
 rw [bG (by omega) (by omega)]; omega
theorem F7 (xs : List Int) (b : Int) (hl : xs.length <= 34359738368) : og xs b = some (xs.contains b) := by
 suffices h : ∃ r, og xs b = some r /\ r = xs.contains b by
  obtain ⟨r, e, rfl⟩ := h
  exact e
 unfold og
 refine I8 (fun m (x : Int × (List Int) × Int × Int) => ∃ i : Nat, x = (b, xs, (xs.length : Int), (i : Int)) /\ m + i = xs.length /\ (xs.take i).contains b = false) (fun r => r = xs.contains b) (fun m x hI => ?_) xs.length (b, xs, (xs.length : Int), 0) ⟨0, rfl, rfl, rfl⟩
 obtain ⟨i, rfl, hm, hI⟩ := hI
 by_cases hi : i < xs.length
 ·have hx := zF hi
  have hd : decide ((i : Int) < (xs.length : Int)) = true := by simpa using hi
  simp only [hd, cond_true, aB, hx, zA]
  cases hc : (xs[i] == b) with
  | true =>
   refine .inr ⟨true, rfl, ?_⟩
   have : xs[i] = b := by simpa using hc
   rw [<- this]
   simp
  | false => exact .inl ⟨_, m - 1, by omega, ⟨i + 1, by rw [Ym (by omega)], by omega, Ql hx hI hc⟩, rfl⟩
 ·have hd : decide ((i : Int) < (xs.length : Int)) = false := by simpa using hi
  simp only [hd, cond_false]
  refine .inr ⟨false, rfl, ?_⟩
  rw [List.take_of_length_le (by omega)] at hI
  exact hI.symm
end Go.Proofs.YtgfjbogcidlaeaaGreatDoor
