import Derived.Test.YtgfjbogcidlaeaaGreatDoorNames1
/- Plain laws: valid names. -/
set_option linter.unusedSimpArgs false
set_option linter.unusedVariables false
namespace Go.Proofs.YtgfjbogcidlaeaaGreatDoor
open Go.Abs Go.Proofs
def aaq (i : Nat) (c : UInt8) : Bool := decide (97 <= c.toNat /\ c.toNat <= 122) || (decide (i ≠ 0) && decide (48 <= c.toNat /\ c.toNat <= 57))
def mg : Nat -> Str -> Bool
 | _, [] => true
 | i, c :: r => aaq i c && mg (i + 1) r
theorem D9 (fin : Bool) : ∀ (xs : Str) (i : Nat), Ea (fun (c : UInt8) i (_ : Unit) => if aaq i c = true then some (.inl ()) else some (.inr false)) (fun _ => some fin) xs i () = some (mg i xs && fin)
 | [], i => by simp [Ea, mg]
 | c :: r, i => by
  unfold Ea mg
  cases h : aaq i c with
  | true => simp only [if_true]; rw [D9 fin r (i + 1)]; simp
  | false => simp
theorem pF (a b c : Int) : jh a b c = some (decide (b <= a) && decide (a <= c)) := by
 unfold jh
 cases decide (b <= a) <;> simp
theorem JV (i : Nat) (c : UInt8) : aaq i c = if 97 <= c.toNat /\ c.toNat <= 122 then true else if i = 0 then false else if 48 <= c.toNat /\ c.toNat <= 57 then true else false := by
 unfold aaq
 by_cases h1 : 97 <= c.toNat /\ c.toNat <= 122
 ·simp [h1]
 ·by_cases h2 : i = 0
  ·simp [h1, h2]
  ·by_cases h3 : 48 <= c.toNat /\ c.toNat <= 57 <;> simp [h1, h2, h3]
theorem Ag (a : Str) (hl : a.length <= 34359738368) : F6 a = some (mg 0 a && (decide (1 <= (a.length : Int)) && decide ((a.length : Int) <= 8))) := by
 rw [<- D9 _ a 0]
 unfold F6
 refine rM (fun (_ : Unit) i => (a, (i : Int))) a _ _ ?_ ?_ ()
 ·intro i c u hc
  have hi : i < a.length := (zC.1 hc).1
  have e1 : w64 ((i : Int) + 1) = ((i + 1 : Nat) : Int) := by rw [bG (by omega) (by omega)]; rfl
  have e2 : decide ((i : Int) < (a.length : Int)) = true := by simp; omega
  have e3 : ((i : Int) == 0) = decide (i = 0) := by by_cases h : i = 0 <;> simp [h]
  simp only [aB, hc, zA, e1, e2, e3, cond_true, JV]
  have q1 : decide ((c.toNat : Int) >= 97) = decide (97 <= c.toNat) := decide_eq_decide.2 (by omega)
  have q2 : decide ((c.toNat : Int) <= 122) = decide (c.toNat <= 122) := decide_eq_decide.2 (by omega)
  have q3 : decide ((c.toNat : Int) < 48) = !decide (48 <= c.toNat) := by by_cases h : 48 <= c.toNat <;> simp [h] <;> omega
  have q4 : decide ((c.toNat : Int) > 57) = !decide (c.toNat <= 57) := by by_cases h : c.toNat <= 57 <;> simp [h] <;> omega
  rw [q1, q2, q3, q4]
  by_cases p1 : 97 <= c.toNat <;> by_cases p2 : c.toNat <= 122 <;> by_cases p3 : i = 0 <;> by_cases p4 : 48 <= c.toNat <;> by_cases p5 : c.toNat <= 57 <;> simp [p1, p2, p3, p4, p5]
 ·intro u
  simp [pF]
theorem QD (a : Str) (hl : a.length <= 34359738368) : Bd a = some (mg 0 a && decide ((a.length : Int) > 0)) := by
 rw [<- D9 _ a 0]
 unfold Bd
 refine rM (fun (_ : Unit) i => (a, (i : Int))) a _ _ ?_ ?_ ()
 ·intro i c u hc
  have hi : i < a.length := (zC.1 hc).1
  have e1 : w64 ((i : Int) + 1) = ((i + 1 : Nat) : Int) := by rw [bG (by omega) (by omega)]; rfl
  have e2 : decide ((i : Int) < (a.length : Int)) = true := by simp; omega
  have e3 : ((i : Int) == 0) = decide (i = 0) := by by_cases h : i = 0 <;> simp [h]
  simp only [aB, hc, zA, e1, e2, e3, cond_true, JV]
  have q1 : decide ((c.toNat : Int) >= 97) = decide (97 <= c.toNat) := decide_eq_decide.2 (by omega)
  have q2 : decide ((c.toNat : Int) <= 122) = decide (c.toNat <= 122) := decide_eq_decide.2 (by omega)
  have q3 : decide ((c.toNat : Int) >= 48) = decide (48 <= c.toNat) := decide_eq_decide.2 (by omega)
  have q4 : decide ((c.toNat : Int) <= 57) = decide (c.toNat <= 57) := decide_eq_decide.2 (by omega)
  rw [q1, q2, q3, q4]
  by_cases p1 : 97 <= c.toNat <;> by_cases p2 : c.toNat <= 122 <;> by_cases p3 : i = 0 <;> by_cases p4 : 48 <= c.toNat <;> by_cases p5 : c.toNat <= 57 <;> simp [p1, p2, p3, p4, p5] <;> omega
 ·intro u
  simp
theorem xW (xs : List Str) (s : Str) (hl : xs.length <= 34359738368) : zx xs s = some (xs.contains s) := by
 have key : ∀ (ys : List Str) (i : Nat), Ea (fun (x : Str) i (_ : Unit) => if x == s then some (.inr true) else some (.inl ())) (fun _ => some false) ys i () = some (ys.contains s) := by
  intro ys
  induction ys with
  | nil => intro i; rfl
  | cons y r ih =>
   intro i
   unfold Ea
   by_cases h : y == s
   ·have e : y = s := by simpa using h
    subst e
    simp
   ·simp only [h, if_false, Bool.false_eq_true]
    rw [ih (i + 1)]
    have e : ¬ s = y := fun e => h (by simp [e])
    simp [e]
 rw [<- key xs 0]
 unfold zx
 refine rM (fun (_ : Unit) i => (xs, s, (i : Int))) xs _ _ ?_ ?_ ()
 ·intro i x u hx
  have hi : i < xs.length := (zC.1 hx).1
  have e1 : w64 ((i : Int) + 1) = ((i + 1 : Nat) : Int) := by rw [bG (by omega) (by omega)]; rfl
  have e2 : decide ((i : Int) < (xs.length : Int)) = true := by simp; omega
  simp only [aB, hx, zA, e1, e2, cond_true]
  by_cases h : x == s <;> simp [h]
 ·intro u
  simp
theorem ZY (a : Str) : dW a = dw a := rfl
theorem Ih (a : Str) : qp a = mP a := by
 unfold mP qf
 simp only [zA]
 rw [xW _ _ (by decide)]
 simp only [zA]
 by_cases h : a ∈ ([[108, 101, 116], [105, 110], [105, 102], [116, 104, 101, 110], [101, 108, 115, 101], [102, 111, 114], [100, 111], [108, 101, 110], [115, 117, 109], [116, 97, 107, 101], [115, 107, 105, 112], [114, 97, 110, 103, 101], [110, 116, 104], [119, 104, 101, 114, 101], [107, 101, 101, 112], [97, 100, 100], [103, 114, 111, 117, 112], [106, 111, 105, 110], [99, 111, 108, 117, 109, 110], [114, 111, 119, 115], [99, 108, 111, 99, 107], [99, 104, 97, 110, 99, 101], [102, 105, 108, 101], [116, 97, 98, 108, 101]] : List Str)
 ·simp only [List.mem_cons, List.not_mem_nil, or_false] at h
  rcases h with rfl | rfl | rfl | rfl | rfl | rfl | rfl | rfl | rfl | rfl | rfl | rfl | rfl | rfl | rfl | rfl | rfl | rfl | rfl | rfl | rfl | rfl | rfl | rfl <;> rfl
 ·have hc : ([[108, 101, 116], [105, 110], [105, 102], [116, 104, 101, 110], [101, 108, 115, 101], [102, 111, 114], [100, 111], [108, 101, 110], [115, 117, 109], [116, 97, 107, 101], [115, 107, 105, 112], [114, 97, 110, 103, 101], [110, 116, 104], [119, 104, 101, 114, 101], [107, 101, 101, 112], [97, 100, 100], [103, 114, 111, 117, 112], [106, 111, 105, 110], [99, 111, 108, 117, 109, 110], [114, 111, 119, 115], [99, 108, 111, 99, 107], [99, 104, 97, 110, 99, 101], [102, 105, 108, 101], [116, 97, 98, 108, 101]] : List Str).contains a = false := by
   rw [Bool.eq_false_iff]; intro hh; exact h (by simpa using hh)
  rw [hc]
  simp only [List.mem_cons, List.not_mem_nil, or_false, not_or] at h
  unfold qp dW
  simp [Bool.cond_eq_ite, h]
theorem vS (a : Str) (hl : a.length <= 34359738368) : bP a = bU a := by
 unfold bP bU
 rw [Ag a hl, QD a hl, Ih]
 simp only [zA]
 cases mg 0 a with
 | false => simp
 | true =>
  by_cases h1 : a.length = 0
  ·simp [h1]
  ·have e1 : decide (1 <= (a.length : Int)) = true := by simp; omega
   have e2 : decide ((a.length : Int) > 0) = true := by simp; omega
   rw [e1, e2]
   simp only [Bool.true_and, cond_true]
theorem sW (a : Str) (hl : a.length <= 34359738368) : ∃ v, bP a = some v := by
 unfold bP
 rw [Ag a hl, Ih]
 unfold mP qf
 simp only [zA]
 rw [xW _ _ (by decide)]
 simp only [zA]
 cases (mg 0 a && (decide (1 <= (a.length : Int)) && decide ((a.length : Int) <= 8))) with
 | false => exact ⟨_, rfl⟩
 | true => exact ⟨_, rfl⟩
end Go.Proofs.YtgfjbogcidlaeaaGreatDoor
