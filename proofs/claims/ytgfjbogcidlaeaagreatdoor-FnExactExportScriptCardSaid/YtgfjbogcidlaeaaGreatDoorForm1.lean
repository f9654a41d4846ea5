import Derived.Test.YtgfjbogcidlaeaaGreatDoorExpr2
import Derived.Test.YtgfjbogcidlaeaaGreatDoorNum1
/- Plain laws: the text of an expression is alike on both sides. -/
set_option linter.unusedSimpArgs false
set_option linter.unusedVariables false
namespace Go.Proofs.YtgfjbogcidlaeaaGreatDoor
open Go.Abs Go.Proofs
theorem P9 (s : Str) : bytesOf (IQ s) = s := by
 unfold bytesOf IQ
 rw [List.map_map]
 refine (List.map_congr_left fun c _ => ?_).trans (List.map_id s)
 show UInt8.ofNat ((c.toNat : Int)).toNat = c
 rw [Int.toNat_natCast]
 exact UInt8.ofNat_toNat
theorem CG : ∀ (n q : Nat), 0 < q -> n < 10 ^ q -> (Go.Lib.decDigits n).length <= q := by
 intro n
 induction n using Nat.strongRecOn with
 | _ n ih =>
  intro q h0 hq
  rw [Go.Lib.decDigits]
  by_cases hn : n < 10
  ·rw [dif_pos hn]; simp; omega
  ·rw [dif_neg hn]
   have hp : 10 ^ q = 10 ^ (q - 1) * 10 := by rw [<- Nat.pow_succ]; congr 1; omega
   have hq1 : 0 < q - 1 := by
    rcases Nat.lt_or_ge 1 q with h | h
    ·omega
    ·have : q = 1 := by omega
     subst this
     simp at hq; omega
   have := ih (n / 10) (by omega) (q - 1) hq1 (by rw [hp] at hq; generalize 10 ^ (q - 1) = p at hq ⊢; omega)
   simp; omega
theorem Ji (n : Int) (h0 : 0 <= n) (h1 : n < 9223372036854775808) : (Go.Lib.itoa n).length <= 19 := by
 unfold Go.Lib.itoa
 rw [if_neg (by omega)]
 exact CG _ 19 (by omega) (by omega)
theorem qL (n : Int) (h0 : -9223372036854775808 <= n) (h1 : n < 9223372036854775808) : iZ n = some (Go.Lib.itoa n) := by
 unfold iZ yj
 rw [if_pos ⟨h0, by omega⟩]
 rfl
end Go.Proofs.YtgfjbogcidlaeaaGreatDoor
/- Lists built entry by entry. -/
set_option linter.unusedSimpArgs false
set_option linter.unusedVariables false
namespace Go.Proofs.YtgfjbogcidlaeaaGreatDoor
open Go.Abs Go.Proofs
def gQ {α β : Type} (f : Nat -> α -> β) : Nat -> List α -> List β
 | _, [] => []
 | i, x :: r => f i x :: gQ f (i + 1) r
theorem wP {α β : Type} (f : Nat -> α -> β) : ∀ (i : Nat) (xs : List α), (gQ f i xs).length = xs.length
 | _, [] => rfl
 | i, x :: r => by simp [gQ, wP f (i + 1) r]
theorem V5 {α β X ρ : Type} {g : X -> Option (X ⊕ ρ)} (pk : List β -> Nat -> X) (xs : List α) (f : Nat -> α -> β) (r : ρ)
  (hs : ∀ i x out, xs[i]? = some x -> out.length = i -> g (pk out i) = some (.inl (pk (out ++ [f i x]) (i + 1))))
  (hf : g (pk (gQ f 0 xs) xs.length) = some (.inr r)) : ah g (pk [] 0) = some r := by
 have key : ∀ (ys : List α) (i : Nat) (out : List β), xs.drop i = ys -> out.length = i -> out ++ gQ f i ys = gQ f 0 xs -> ah g (pk out i) = some r := by
  intro ys
  induction ys with
  | nil =>
   intro i out hd hl ho
   have hi : i = xs.length := by
    have h1 := congrArg List.length ho
    have h2 : xs.length <= i := List.drop_eq_nil_iff.1 hd
    rw [wP] at h1
    simp [gQ] at h1
    omega
   rw [gQ, List.append_nil] at ho
   subst hi
   rw [aH, ho, hf]
  | cons y r' ih =>
   intro i out hd hl ho
   have hx : xs[i]? = some y := by
    have := congrArg (·[0]?) hd
    simpa using this
   rw [aH, hs i y out hx hl]
   refine ih (i + 1) (out ++ [f i y]) ?_ (by simp [hl]) ?_
   ·have := congrArg List.tail hd
    simpa using this
   ·rw [List.append_assoc]; exact ho
 exact key xs 0 [] rfl rfl rfl
theorem zZ {α : Type} : ∀ (i : Nat) (xs : List α), gQ (fun _ x => x) i xs = xs
 | _, [] => rfl
 | i, x :: r => by rw [gQ, zZ (i + 1) r]
theorem abd (i : Nat) : decide ((i : Int) > 0) = decide (0 < i) := by
 by_cases h : 0 < i
 ·rw [decide_eq_true h, decide_eq_true (by omega)]
 ·rw [decide_eq_false h, decide_eq_false (by omega)]
end Go.Proofs.YtgfjbogcidlaeaaGreatDoor
