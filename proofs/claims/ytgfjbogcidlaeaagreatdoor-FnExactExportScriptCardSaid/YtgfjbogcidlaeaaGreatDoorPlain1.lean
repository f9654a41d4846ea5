import Derived.Test.YtgfjbogcidlaeaaGreatDoorModels
import Derived.Test.YtgfjbogcidlaeaaGreatDoorS4
/- Plain laws of the evaluator's loops over lists. -/
set_option linter.unusedSimpArgs false
set_option linter.unusedVariables false
namespace Go.Proofs.YtgfjbogcidlaeaaGreatDoor
open Go.Abs Go.Proofs
theorem bG {n : Int} (h1 : -9223372036854775808 <= n) (h2 : n < 9223372036854775808) : w64 n = n := by
 simp only [w64, IntKind.wrap, IntKind.bits, IntKind.signed]
 simp
 omega
theorem aB {α : Type} (xs : List α) (i : Nat) : idx xs (i : Int) = xs[i]? := by
 simp [idx]
def Ea {α σ ρ : Type} (f : α -> Nat -> σ -> Option (σ ⊕ ρ)) (fin : σ -> Option ρ) : List α -> Nat -> σ -> Option ρ
 | [], _, s => fin s
 | x :: r, i, s => match f x i s with
  | none => none
  | some (.inl s') => Ea f fin r (i + 1) s'
  | some (.inr r) => some r
theorem rM {α σ ρ X : Type} {g : X -> Option (X ⊕ ρ)} (pk : σ -> Nat -> X) (xs : List α) (f : α -> Nat -> σ -> Option (σ ⊕ ρ)) (fin : σ -> Option ρ)
  (h1 : ∀ i x s, xs[i]? = some x -> g (pk s i) = match f x i s with
   | none => none
   | some (.inl s') => some (.inl (pk s' (i + 1)))
   | some (.inr r) => some (.inr r))
  (h2 : ∀ s, g (pk s xs.length) = (fin s).bind fun r => some (.inr r)) (s : σ) : ah g (pk s 0) = Ea f fin xs 0 s := by
 have key : ∀ (n i : Nat) (s : σ), xs.length = i + n -> ah g (pk s i) = Ea f fin (xs.drop i) i s := by
  intro n
  induction n with
  | zero =>
   intro i s hi
   rw [List.drop_eq_nil_of_le (by omega)]
   rw [aH]
   have : i = xs.length := by omega
   subst this
   rw [h2]
   show _ = fin s
   cases fin s <;> rfl
  | succ n ih =>
   intro i s hi
   have hlt : i < xs.length := by omega
   rw [List.drop_eq_getElem_cons hlt, aH, h1 i xs[i] s (zF hlt)]
   simp only [Ea]
   cases f xs[i] i s with
   | none => rfl
   | some y => cases y with
    | inl s' => exact ih (i + 1) s' (by omega)
    | inr r => rfl
 simpa using key xs.length 0 s (by omega)
theorem aap {α : Type} (f : α -> Option α) (xs : List α) (hf : ∀ x ∈ xs, f x = some x) (hl : xs.length < 4611686018427387904) (out : List α) (ho : out.length = xs.length) :
  ah (fun (x : List α × List α × Int) =>
   bif (decide (x.2.2 < (x.1.length : Int))) then
    (idx x.1 x.2.2).bind fun e3 =>
    (f e3).bind fun r4 =>
    (idx x.2.1 x.2.2).bind fun _ =>
    (x.2.1[x.2.2.toNat]?).bind fun e6 =>
    some (.inl (x.1, x.2.1.set x.2.2.toNat r4, w64 (x.2.2 + 1)))
   else
    some (.inr (x.2.1))) (xs, out, 0) = some xs := by
 have key : ∀ (n i : Nat) (out : List α), xs.length = i + n -> out.length = xs.length -> out.take i = xs.take i -> ah (fun (x : List α × List α × Int) =>
   bif (decide (x.2.2 < (x.1.length : Int))) then
    (idx x.1 x.2.2).bind fun e3 =>
    (f e3).bind fun r4 =>
    (idx x.2.1 x.2.2).bind fun _ =>
    (x.2.1[x.2.2.toNat]?).bind fun e6 =>
    some (.inl (x.1, x.2.1.set x.2.2.toNat r4, w64 (x.2.2 + 1)))
   else
    some (.inr (x.2.1))) (xs, out, (i : Int)) = some xs := by
  intro n
  induction n with
  | zero =>
   intro i out hi ho ht
   rw [aH]
   have h : ¬ ((i : Int) < (xs.length : Int)) := by omega
   simp only [h, decide_false, cond_false]
   rw [List.take_of_length_le (by omega), List.take_of_length_le (by omega)] at ht
   rw [ht]
  | succ n ih =>
   intro i out hi ho ht
   have hlt : i < xs.length := by omega
   rw [aH]
   have h : ((i : Int) < (xs.length : Int)) := by omega
   have h2 : out[i]? = some (out[i]'(by omega)) := zF (by omega)
   simp only [h, decide_true, cond_true, aB, zF hlt, zA, hf _ (List.getElem_mem hlt), h2, Int.toNat_natCast]
   rw [bG (by omega) (by omega)]
   have := ih (i + 1) (out.set i xs[i]) (by omega) (by simpa using ho) (by
    apply List.ext_getElem?
    intro j
    have hj := congrArg (·[j]?) ht
    simp only [List.getElem?_take] at hj ⊢
    by_cases hji : j < i
    ·simp only [hji, if_true] at hj
     simp only [show j < i + 1 by omega, if_true, List.getElem?_set, show ¬ i = j by omega, if_false]
     exact hj
    ·by_cases hje : j = i
     ·subst hje
      simp [List.getElem?_set, show j < out.length by omega, zF hlt]
     ·simp [show ¬ j < i + 1 by omega])
   simpa using this
 exact key xs.length 0 out (by omega) ho (by simp)
end Go.Proofs.YtgfjbogcidlaeaaGreatDoor
