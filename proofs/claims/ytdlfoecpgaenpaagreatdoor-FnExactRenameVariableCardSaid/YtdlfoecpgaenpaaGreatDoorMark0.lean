/- Plain laws of the functions that mark a value and look for the marks. -/
import Derived.Test.YtdlfoecpgaenpaaGreatDoorPlain3
set_option linter.unusedSimpArgs false
set_option linter.unusedVariables false
namespace Go.Proofs.YtdlfoecpgaenpaaGreatDoor
open Go.Abs Go.Proofs
theorem markText_ok (k : Int) (h0 : 0 <= k) (h1 : k < 9223372036854775808) : ∃ t, markText k = some t := by
 unfold markText
 by_cases hk : k <= 0
 ·rw [decide_eq_true hk, cond_true]; exact ⟨_, rfl⟩
 rw [decide_eq_false hk, cond_false]
 have key : ∀ (n : Nat) (k : Int) (s : Str), 0 <= k -> k < 9223372036854775808 -> k < 10 ^ n -> s.length + n <= 40 -> ∃ t, loopD (fun (x1 : Int × Str) =>
   bif (decide (x1.1 > 0)) then
    (gd ((bytesOf [w8 (w64 (48 + (x1.1.tmod 10)))]).length + x1.2.length)).bind fun _ =>
    some (.inl (w64 (x1.1.tdiv 10), (bytesOf [w8 (w64 (48 + (x1.1.tmod 10)))]) ++ x1.2))
   else
    (
     (gd ([109].length + x1.2.length)).bind fun _ =>
     some ([109] ++ x1.2)
    ).bind fun r => some (.inr r)) (k, s) = some t := by
  intro n
  induction n with
  | zero =>
   intro k s hk0 _ hk hs
   have hk' : k = 0 := by simp at hk; omega
   subst hk'
   rw [loopD_eq]
   have hg : gd ([109].length + s.length) = some () := by unfold gd; rw [if_pos (by simp; omega)]
   simp only [gt_iff_lt, Int.lt_irrefl, decide_false, cond_false, hg, Option.bind_some]
   exact ⟨_, rfl⟩
  | succ n ih =>
   intro k s hk0 hk1 hk hs
   rw [loopD_eq]
   by_cases hz : k > 0
   ·have hg : gd ((bytesOf [w8 (w64 (48 + (k.tmod 10)))]).length + s.length) = some () := by unfold gd; rw [if_pos (by simp [bytesOf]; omega)]
    simp only [decide_eq_true hz, cond_true, hg, Option.bind_some]
    have hd : k.tdiv 10 = k / 10 := by rw [Int.tdiv_eq_ediv_of_nonneg hk0]
    have hw : w64 (k.tdiv 10) = k / 10 := by rw [hd]; exact w64_id (by omega) (by omega)
    rw [hw]
    refine ih (k / 10) _ (by omega) (by omega) ?_ (by simp [bytesOf]; omega)
    have : (10 : Int) ^ (n + 1) = 10 ^ n * 10 := Int.pow_succ 10 n
    rw [this] at hk
    generalize (10 : Int) ^ n = p at hk ⊢
    omega
   ·have hg : gd ([109].length + s.length) = some () := by unfold gd; rw [if_pos (by simp; omega)]
    simp only [decide_eq_false hz, cond_false, hg, Option.bind_some]
    exact ⟨_, rfl⟩
 exact key 19 k [] (by omega) h1 (by rw [show (10 : Int) ^ 19 = 10000000000000000000 from rfl]; omega) (by simp)
def MkOk {α : Type} (mark : α -> Int -> Option (α × Int)) (held : α -> Int -> Option Int) (x : α) (n : Nat) : Prop :=
 ∀ k : Int, 0 <= k -> k + n <= 4611686018427387904 -> ∃ y, mark x k = some (y, k + n) /\ held y k = some (k + n)
theorem markList_ok {α : Type} {mk : List α -> Int -> Option (List α × Int)} {hd : List α -> Int -> Option Int} {g : List α × Int × Int -> Option ((List α × Int × Int) ⊕ (List α × Int))} {g' : List α × Int × Int -> Option ((List α × Int × Int) ⊕ Int)}
  (hmk : ∀ xs k, mk xs k = loopD g (xs, 0, k)) (hhd : ∀ xs k, hd xs k = loopD g' (xs, k, 0)) (cnt : α -> Nat) (P : α -> Prop)
  (hstep : ∀ (xs : List α) (i : Nat) (x : α) (k : Int), xs[i]? = some x -> P x -> xs.length < 4611686018427387904 -> 0 <= k -> k + cnt x <= 4611686018427387904 -> ∃ y, g (xs, (i : Int), k) = some (.inl (xs.set i y, ((i + 1 : Nat) : Int), k + cnt x)) /\
   ∀ ys : List α, ys.length < 4611686018427387904 -> ys[i]? = some y -> g' (ys, k, (i : Int)) = some (.inl (ys, k + cnt x, ((i + 1 : Nat) : Int))))
  (hend : ∀ (xs : List α) (k : Int), g (xs, (xs.length : Int), k) = some (.inr (xs, k))) (hend' : ∀ (xs : List α) (k : Int), g' (xs, k, (xs.length : Int)) = some (.inr k))
  (xs : List α) (hP : ∀ x, x ∈ xs -> P x) (hl : xs.length < 4611686018427387904) : MkOk mk hd xs ((xs.map cnt).sum) := by
 have key : ∀ (n : Nat) (xs : List α) (i : Nat) (k : Int), i + n = xs.length -> xs.length < 4611686018427387904 -> (∀ x, x ∈ xs.drop i -> P x) -> 0 <= k -> k + ((xs.drop i).map cnt).sum <= 4611686018427387904 ->
   ∃ ys, loopD g (xs, (i : Int), k) = some (ys, k + ((xs.drop i).map cnt).sum) /\ ys.length = xs.length /\ (∀ j, j < i -> ys[j]? = xs[j]?) /\ loopD g' (ys, k, (i : Int)) = some (k + ((xs.drop i).map cnt).sum) := by
  intro n
  induction n with
  | zero =>
   intro xs i k hi hl hP h0 hk
   have hi' : i = xs.length := by omega
   subst hi'
   have hd0 : xs.drop xs.length = [] := List.drop_length
   rw [hd0]
   refine ⟨xs, ?_, rfl, fun _ _ => rfl, ?_⟩
   ·rw [loopD_eq, hend]; simp
   ·rw [loopD_eq, hend']; simp
  | succ n ih =>
   intro xs i k hi hl hP h0 hk
   have hil : i < xs.length := by omega
   have hx : xs[i]? = some xs[i] := List.getElem?_eq_getElem hil
   have hdr : xs.drop i = xs[i] :: xs.drop (i + 1) := List.drop_eq_getElem_cons hil
   rw [hdr] at hP hk ⊢
   simp only [List.map_cons, List.sum_cons] at hk ⊢
   have hcast : ((cnt xs[i] + ((xs.drop (i + 1)).map cnt).sum : Nat) : Int) = (cnt xs[i] : Int) + (((xs.drop (i + 1)).map cnt).sum : Nat) := by omega
   rw [hcast] at hk ⊢
   obtain ⟨y, hg, hg'⟩ := hstep xs i xs[i] k hx (hP _ List.mem_cons_self) hl h0 (by omega)
   have hds : (xs.set i y).drop (i + 1) = xs.drop (i + 1) := by
    rw [List.drop_set]; rw [if_pos (by omega)]
   obtain ⟨ys, e1, e2, e3, e4⟩ := ih (xs.set i y) (i + 1) (k + cnt xs[i]) (by simp; omega) (by simpa using hl) (by rw [hds]; exact fun x hx => hP x (List.mem_cons_of_mem _ hx)) (by omega) (by rw [hds]; omega)
   rw [hds] at e1 e4
   have hyl : ys.length = xs.length := by rw [e2]; simp
   refine ⟨ys, ?_, hyl, fun j hj => ?_, ?_⟩
   ·rw [loopD_eq, hg]
    simp only
    rw [e1, Int.add_assoc]
   ·rw [e3 j (by omega), List.getElem?_set, if_neg (by omega)]
   ·have hyi : ys[i]? = some y := by
     rw [e3 i (by omega), List.getElem?_set, if_pos rfl, if_pos hil]
    rw [loopD_eq, hg' ys (by omega) hyi]
    simp only
    rw [e4, Int.add_assoc]
 intro k h0 hk
 obtain ⟨ys, e1, _, _, e4⟩ := key xs.length xs 0 k (by omega) hl (by simpa using hP) h0 (by simpa using hk)
 refine ⟨ys, ?_, ?_⟩
 ·rw [hmk]; simpa using e1
 ·rw [hhd]; simpa using e4
theorem set_get {α : Type} {xs : List α} {i : Nat} {x y : α} (h : xs[i]? = some x) : (xs.set i y)[i]? = some y := by
 rw [List.getElem?_set, if_pos rfl, if_pos (List.getElem?_eq_some_iff.1 h).1]
theorem dec_lt {α : Type} {xs : List α} {i : Nat} {x : α} (h : xs[i]? = some x) : decide ((i : Int) < (xs.length : Int)) = true := by
 have := (List.getElem?_eq_some_iff.1 h).1
 simpa using this
theorem w_succ {α : Type} {xs : List α} {i : Nat} {x : α} (h : xs[i]? = some x) (hl : xs.length < 4611686018427387904) : w64 ((i : Int) + 1) = ((i + 1 : Nat) : Int) := by
 have := (List.getElem?_eq_some_iff.1 h).1
 rw [w64_id (by omega) (by omega)]; omega
theorem bne_self_i (a : Int) : (a != a) = false := by simp
theorem nbeq_self_s (a : Str) : (!(a == a)) = false := by simp
end Go.Proofs.YtdlfoecpgaenpaaGreatDoor
