import Derived.Test.YtgfjbogcidlaeaaGreatDoorPlain1
/- Plain laws: where a name stands in a list of names. -/
set_option linter.unusedSimpArgs false
set_option linter.unusedVariables false
namespace Go.Proofs.YtgfjbogcidlaeaaGreatDoor
open Go.Abs Go.Proofs
def posOf (s : Str) : Nat -> List Str -> Int
 | _, [] => -1
 | i, x :: r => if x == s then i else posOf s (i + 1) r
theorem Dx (s : Str) : ∀ (xs : List Str) (i : Nat), (posOf s i xs < 0) ↔ xs.contains s = false
 | [], i => by simp [posOf]
 | x :: r, i => by
  unfold posOf
  by_cases h : x == s
  ·rw [if_pos h]
   have e : x = s := by simpa using h
   subst e
   constructor
   ·intro h; omega
   ·intro h; simp at h
  ·rw [if_neg h, Dx s r (i + 1)]
   have e : ¬ x = s := by simpa using h
   have e2 : ¬ s = x := fun h => e h.symm
   simp [e2]
theorem xq (xs : List Str) (s : Str) (hl : xs.length <= 34359738368) : sD xs s = some (posOf s 0 xs) := by
 unfold sD
 have key : ∀ (ys : List Str) (i : Nat), Ea (fun (x : Str) i (_ : Unit) => if x == s then some (.inr (i : Int)) else some (.inl ())) (fun _ => some (-1)) ys i () = some (posOf s i ys) := by
  intro ys
  induction ys with
  | nil => intro i; rfl
  | cons y r ih =>
   intro i
   unfold Ea posOf
   by_cases h : y == s
   ·simp [h]
   ·simp only [h, if_false, Bool.false_eq_true]
    exact ih (i + 1)
 rw [<- key xs 0]
 refine rM (fun (_ : Unit) i => (s, xs, (xs.length : Int), (i : Int))) xs _ _ ?_ ?_ ()
 ·intro i x u hx
  have hi : i < xs.length := (zC.1 hx).1
  have e1 : w64 ((i : Int) + 1) = ((i + 1 : Nat) : Int) := by rw [bG (by omega) (by omega)]; rfl
  simp only [aB, hx, zA, e1]
  have e2 : decide ((i : Int) < (xs.length : Int)) = true := by simp; omega
  rw [e2]
  simp only [cond_true]
  by_cases h : x == s
  ·simp [h]
  ·simp [h]
 ·intro u
  simp
end Go.Proofs.YtgfjbogcidlaeaaGreatDoor
