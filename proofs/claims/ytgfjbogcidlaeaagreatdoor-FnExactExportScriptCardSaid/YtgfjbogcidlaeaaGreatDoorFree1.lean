import Derived.Test.YtgfjbogcidlaeaaGreatDoorForm1
import Derived.Test.YtgfjbogcidlaeaaGreatDoorNames1
import Derived.Sort.Walk0
/- Plain laws: free names, captured names, sorted names: alike on both sides. -/
set_option linter.unusedSimpArgs false
set_option linter.unusedVariables false
namespace Go.Proofs.YtgfjbogcidlaeaaGreatDoor
noncomputable section
open Go.Abs Go.Proofs
mutual
def evE : af -> List Str -> List (Str × List Str)
 | ⟨k, _, t, a⟩, bound => if ((k == 3) && !(bound.contains t)) = true then [(t, bound)] else evL a ((k == 7) || (k == 9)) t bound 0
def evL : List af -> Bool -> Str -> List Str -> Nat -> List (Str × List Str)
 | [], _, _, _, _ => []
 | x :: r, bi, t, bound, i => (if (bi && decide (0 < i)) = true then evE x (bound ++ [t]) else evE x bound) ++ evL r bi t bound (i + 1)
end
theorem Vf (e : af) (bound : List Str) : evE e bound = if ((e.kind == 3) && !(bound.contains e.text)) = true then [(e.text, bound)] else evL e.args ((e.kind == 7) || (e.kind == 9)) e.text bound 0 := by cases e; rfl
def evP (bi : Bool) (t : Str) (bound : List Str) (i : Nat) (x : af) : List (Str × List Str) := if (bi && decide (0 < i)) = true then evE x (bound ++ [t]) else evE x bound
theorem JO (bi : Bool) (t : Str) (bound : List Str) : ∀ (xs ys : List af) (i : Nat), evL (xs ++ ys) bi t bound i = evL xs bi t bound i ++ evL ys bi t bound (i + xs.length)
 | [], ys, i => rfl
 | x :: r, ys, i => by
  show evP bi t bound i x ++ evL (r ++ ys) bi t bound (i + 1) = (evP bi t bound i x ++ evL r bi t bound (i + 1)) ++ _
  rw [JO bi t bound r ys (i + 1), List.append_assoc]
  have : i + 1 + r.length = i + (x :: r).length := by simp; omega
  rw [this]
theorem aah (bi : Bool) (t : Str) (bound : List Str) {xs : List af} {i : Nat} {x : af} (h : xs[i]? = some x) : evL (xs.take (i + 1)) bi t bound 0 = evL (xs.take i) bi t bound 0 ++ evP bi t bound i x := by
 obtain ⟨hi, rfl⟩ := zC.1 h
 rw [List.take_succ_eq_append_getElem hi, JO]
 have : 0 + (xs.take i).length = i := by rw [List.length_take]; omega
 rw [this]
 show _ ++ (evP bi t bound i _ ++ []) = _
 rw [List.append_nil]
mutual
theorem Cm : ∀ (e : af) (bound : List Str), (evE e bound).length <= wtE e
 | ⟨k, n, t, a⟩, bound => by
  have h := PU a ((k == 7) || (k == 9)) t bound 0
  have h2 := xI ⟨k, n, t, a⟩
  rw [Vf]
  split
  ·simp; exact Vy _
  ·show (evL a ((k == 7) || (k == 9)) t bound 0).length <= _
   have h2 : 1 + wtL a <= wtE ⟨k, n, t, a⟩ := h2
   omega
theorem PU : ∀ (xs : List af) (bi : Bool) (t : Str) (bound : List Str) (i : Nat), (evL xs bi t bound i).length <= wtL xs
 | [], _, _, _, _ => Nat.le_refl _
 | x :: r, bi, t, bound, i => by
  have h1 := Cm x bound
  have h2 := Cm x (bound ++ [t])
  have h3 := PU r bi t bound (i + 1)
  show ((if (bi && decide (0 < i)) = true then evE x (bound ++ [t]) else evE x bound) ++ evL r bi t bound (i + 1)).length <= wtE x + wtL r
  rw [List.length_append]
  split <;> omega
end
theorem Eo (n : Nat) (bi : Bool) (t : Str) (bound : List Str) : ∀ (xs : List af) (i : Nat), (∀ x, x ∈ xs -> ∀ bd : List Str, bd.length <= bound.length + 1 -> jB n x bd = some (evE x bd)) -> bound.length <= 1048576 -> cZ (jB n) bi t bound i xs = some (evL xs bi t bound i)
 | [], i, _, _ => rfl
 | x :: r, i, hx, hb => by
  have h1 := hx x (by simp) bound (by omega)
  have h2 := hx x (by simp) (bound ++ [t]) (by simp)
  have h3 := Eo n bi t bound r (i + 1) (fun y hy => hx y (List.mem_cons_of_mem _ hy)) hb
  show (if (bi && decide (0 < i)) = true then (gd (bound.length + 1)).bind fun _ => jB n x (bound ++ [t]) else jB n x bound).bind (fun u => (cZ (jB n) bi t bound (i + 1) r).bind fun v => some (u ++ v)) = some ((if (bi && decide (0 < i)) = true then evE x (bound ++ [t]) else evE x bound) ++ evL r bi t bound (i + 1))
  rw [gdp (by omega), zA, h1, h2, h3]
  cases (bi && decide (0 < i)) <;> rfl
theorem Gl : ∀ (n : Nat) (e : af) (bound : List Str), siz e < n -> wtE e + bound.length <= 1048576 -> jB n e bound = some (evE e bound)
 | 0, e, _, h, _ => absurd h (Nat.not_lt_zero _)
 | n + 1, e, bound, hn, hw => by
  have hl := CV (e := e)
  have hA := Eo n (decide (e.kind = 7) || decide (e.kind = 9)) e.text bound e.args 0 (fun x hx bd hbd => Gl n x bd (by have := qP hx; omega) (by have := zi hx; omega)) (by omega)
  show ((gd bound.length).bind fun _ => (gd e.args.length).bind fun _ => if e.kind = 3 /\ bound.contains e.text = false then some [(e.text, bound)] else cZ (jB n) (decide (e.kind = 7) || decide (e.kind = 9)) e.text bound 0 e.args) = _
  rw [gdp (by omega), zA, gdp (by omega), zA, hA, Vf]
  by_cases h : e.kind = 3
  ·cases hc : bound.contains e.text with
   | true =>
    rw [if_neg (fun hh => by simp at hh), if_neg (by simp)]; rfl
   | false =>
    rw [if_pos ⟨h, rfl⟩, if_pos (by simp [h])]
  ·rw [if_neg (fun hh => h hh.1), if_neg (by simp [h])]; rfl
abbrev aea := (List Str) × Int × Int × Str × (List af) × (List Str) × Int
def D8 (rec : af -> List Str -> Option (List Str)) : aea -> Option (aea ⊕ List Str) := (fun (x2 : (List Str) × Int × Int × Str × (List af) × (List Str) × Int) =>
      bif (decide (x2.2.2.2.2.2.2 < (x2.2.2.2.2.1.length : Int))) then
       bif (x2.2.1 == 7) then
        bif (decide (x2.2.2.2.2.2.2 > 0)) then
         (gd (0 + x2.1.length)).bind fun _ =>
         (gd (([] ++ x2.1).length + ([x2.2.2.2.1] : List Str).length)).bind fun _ =>
         (idx x2.2.2.2.2.1 x2.2.2.2.2.2.2).bind fun e3 =>
         (rec (aj e3) (([] ++ x2.1) ++ ([x2.2.2.2.1] : List Str))).bind fun r4 =>
         (gd (x2.2.2.2.2.2.1.length + r4.length)).bind fun _ =>
         some (.inl (x2.1, x2.2.1, x2.2.2.1, x2.2.2.2.1, x2.2.2.2.2.1, x2.2.2.2.2.2.1 ++ r4, w64 (x2.2.2.2.2.2.2 + 1)))
        else
         (idx x2.2.2.2.2.1 x2.2.2.2.2.2.2).bind fun e5 =>
         (rec (aj e5) x2.1).bind fun r6 =>
         (gd (x2.2.2.2.2.2.1.length + r6.length)).bind fun _ =>
         some (.inl (x2.1, x2.2.1, x2.2.2.1, x2.2.2.2.1, x2.2.2.2.2.1, x2.2.2.2.2.2.1 ++ r6, w64 (x2.2.2.2.2.2.2 + 1)))
       else
       bif (x2.2.1 == 9) then
        bif (decide (x2.2.2.2.2.2.2 > 0)) then
         (gd (0 + x2.1.length)).bind fun _ =>
         (gd (([] ++ x2.1).length + ([x2.2.2.2.1] : List Str).length)).bind fun _ =>
         (idx x2.2.2.2.2.1 x2.2.2.2.2.2.2).bind fun e7 =>
         (rec (aj e7) (([] ++ x2.1) ++ ([x2.2.2.2.1] : List Str))).bind fun r8 =>
         (gd (x2.2.2.2.2.2.1.length + r8.length)).bind fun _ =>
         some (.inl (x2.1, x2.2.1, x2.2.2.1, x2.2.2.2.1, x2.2.2.2.2.1, x2.2.2.2.2.2.1 ++ r8, w64 (x2.2.2.2.2.2.2 + 1)))
        else
         (idx x2.2.2.2.2.1 x2.2.2.2.2.2.2).bind fun e9 =>
         (rec (aj e9) x2.1).bind fun r10 =>
         (gd (x2.2.2.2.2.2.1.length + r10.length)).bind fun _ =>
         some (.inl (x2.1, x2.2.1, x2.2.2.1, x2.2.2.2.1, x2.2.2.2.2.1, x2.2.2.2.2.2.1 ++ r10, w64 (x2.2.2.2.2.2.2 + 1)))
       else
        (idx x2.2.2.2.2.1 x2.2.2.2.2.2.2).bind fun e11 =>
        (rec (aj e11) x2.1).bind fun r12 =>
        (gd (x2.2.2.2.2.2.1.length + r12.length)).bind fun _ =>
        some (.inl (x2.1, x2.2.1, x2.2.2.1, x2.2.2.2.1, x2.2.2.2.2.1, x2.2.2.2.2.2.1 ++ r12, w64 (x2.2.2.2.2.2.2 + 1)))
      else
       some (.inr (x2.2.2.2.2.2.1))
  )
theorem Xo (rec) (a : af) (b : List Str) : Dl rec a b = bif (a.kind == 3) then ((zx b a.text).bind fun r1 => bif (!r1) then ((gd (0 + ([a.text] : List Str).length)).bind fun _ => some ([] ++ ([a.text] : List Str))) else ah (D8 rec) (b, a.kind, a.n, a.text, a.args, [], 0)) else ah (D8 rec) (b, a.kind, a.n, a.text, a.args, [], 0) := rfl
theorem Wx : ∀ (n : Nat) (e : af) (bound : List Str), siz e < n -> wtE e + bound.length <= 1048576 -> lD n e bound = some ((evE e bound).map (·.1))
 | 0, e, _, h, _ => absurd h (Nat.not_lt_zero _)
 | n + 1, e, bound, hn, hw => by
  have ih := Wx n
  have hl := CV (e := e)
  have hloop : ah (D8 (lD n)) (bound, e.kind, e.n, e.text, e.args, [], 0) = some ((evL e.args ((e.kind == 7) || (e.kind == 9)) e.text bound 0).map (·.1)) := by
   have key := bH (g := D8 (lD n)) (fun (s : List Str) (i : Nat) => ((bound, e.kind, e.n, e.text, e.args, s, (i : Int)) : aea)) e.args (fun i s => s = (evL (e.args.take i) ((e.kind == 7) || (e.kind == 9)) e.text bound 0).map (·.1)) (fun r => r = (evL e.args ((e.kind == 7) || (e.kind == 9)) e.text bound 0).map (·.1)) (fun i x s hx hI => .inl ?_) (fun s hI => ?_) [] rfl
   ·obtain ⟨r, h, rfl⟩ := key
    exact h
   ·have hm := zG hx
    have h1 := zi hm
    have h2 := Gj hx
    have h3 := pY e.args (i + 1)
    have h4 := xI e
    have h5 := PU (e.args.take i) ((e.kind == 7) || (e.kind == 9)) e.text bound 0
    have hz := qP hm
    have q1 := ih x bound (by omega) (by omega)
    have q2 := ih x (([] ++ bound) ++ ([e.text] : List Str)) (by omega) (by simp; omega)
    have l1 := Cm x bound
    have l2 := Cm x (bound ++ [e.text])
    refine ⟨s ++ (evP ((e.kind == 7) || (e.kind == 9)) e.text bound i x).map (·.1), ?_, by rw [aah _ _ _ hx, List.map_append, hI]⟩
    have hsl : s.length <= wtL (e.args.take i) := by rw [hI, List.length_map]; exact h5
    have g1 : gd (s.length + ((evE x bound).map (·.1)).length) = some () := gdp (by rw [List.length_map]; omega)
    have g2 : gd (s.length + ((evE x (([] ++ bound) ++ ([e.text] : List Str))).map (·.1)).length) = some () := gdp (by rw [List.length_map, List.nil_append]; omega)
    have g3 : gd (0 + bound.length) = some () := gdp (by omega)
    have g4 : gd (([] ++ bound).length + ([e.text] : List Str).length) = some () := gdp (by simp; omega)
    simp only [D8, bK hx, cond_true, aB, hx, zA, bF, q1, q2, g1, g2, g3, g4, bI hx (by omega), abd]
    unfold evP
    cases (e.kind == 7) <;> cases (e.kind == 9) <;> cases decide (0 < i) <;> rfl
   ·refine ⟨_, by simp only [D8, bC, cond_false]; rfl, by rw [hI, List.take_length]⟩
  show Dl (lD n) e bound = _
  rw [Xo, hloop, xW _ _ (by omega), Vf]
  have hg : gd (0 + ([e.text] : List Str).length) = some () := gdp (by simp)
  cases (e.kind == 3) <;> cases bound.contains e.text <;> simp only [cond_true, cond_false, Bool.not_true, Bool.not_false, Bool.and_true, Bool.and_false, Bool.true_and, Bool.false_and, Bool.false_eq_true, if_true, if_false, zA, hg] <;> rfl
def jG (xs : List Str) : Prop := xs.Pairwise (· < ·)
theorem MB : ∀ {xs ys : List Str}, jG xs -> jG ys -> (∀ b, b ∈ xs ↔ b ∈ ys) -> xs = ys
 | [], [], _, _, _ => rfl
 | [], y :: r, _, _, h => absurd ((h y).2 (by simp)) (by simp)
 | x :: r, [], _, _, h => absurd ((h x).1 (by simp)) (by simp)
 | x :: r, y :: q, hx, hy, h => by
  obtain ⟨hx1, hx2⟩ := List.pairwise_cons.1 hx
  obtain ⟨hy1, hy2⟩ := List.pairwise_cons.1 hy
  have hxy : x = y := by
   rcases List.mem_cons.1 ((h x).1 (by simp)) with e | e
   ·exact e
   ·rcases List.mem_cons.1 ((h y).2 (by simp)) with e' | e'
    ·exact e'.symm
    ·exact absurd (List.lt_trans (hy1 x e) (hx1 y e')) (List.lt_irrefl _)
  subst hxy
  rw [MB hx2 hy2 fun b => ⟨fun hb => ?_, fun hb => ?_⟩]
  ·rcases List.mem_cons.1 ((h b).1 (List.mem_cons_of_mem _ hb)) with e | e
   ·subst e; exact absurd (hx1 _ hb) (List.lt_irrefl _)
   ·exact e
  ·rcases List.mem_cons.1 ((h b).2 (List.mem_cons_of_mem _ hb)) with e | e
   ·subst e; exact absurd (hy1 _ hb) (List.lt_irrefl _)
   ·exact e
theorem Dc {xs : List Str} (h1 : xs.Pairwise (fun a b => decide (a <= b) = true)) (h2 : xs.Nodup) : jG xs := by
 induction xs with
 | nil => exact List.Pairwise.nil
 | cons x r ih =>
  obtain ⟨a1, a2⟩ := List.pairwise_cons.1 h1
  obtain ⟨b1, b2⟩ := List.nodup_cons.1 h2
  refine List.pairwise_cons.2 ⟨fun y hy => ?_, ih a2 b2⟩
  have hle : x <= y := of_decide_eq_true (a1 y hy)
  rcases Decidable.em (x < y) with h | h
  ·exact h
  ·have : x = y := List.le_antisymm hle h
   subst this
   exact absurd hy b1
theorem Ir (s : Str) : ∀ (xs : List Str) (i k : Nat), xs[i]? = some s -> (posOf s k xs == ((k + i : Nat) : Int)) = !((xs.take i).contains s)
 | [], i, k, h => by simp at h
 | x :: r, i, k, h => by
  unfold posOf
  cases i with
  | zero =>
   simp at h
   subst h
   simp
  | succ i =>
   have h : r[i]? = some s := by simpa using h
   by_cases hx : x == s
   ·rw [if_pos hx]
    have e : x = s := by simpa using hx
    subst e
    have : ((k : Int) == ((k + (i + 1) : Nat) : Int)) = false := by simp; omega
    rw [this]
    simp
   ·rw [if_neg hx]
    have := Ir s r i (k + 1) h
    rw [show k + (i + 1) = k + 1 + i by omega, this]
    have e : ¬ x = s := by simpa using hx
    have e2 : ¬ s = x := fun h => e h.symm
    simp [e2]
abbrev Vr := (List Str) × (List Str) × (List Str) × Int × Int
def TV : Vr -> Option (Vr ⊕ List Str) := (fun (x1 : (List Str) × (List Str) × (List Str) × Int × Int) =>
      bif (decide (x1.2.2.2.2 < x1.2.2.2.1)) then
       (idx x1.2.2.1 x1.2.2.2.2).bind fun e2 =>
       (sD x1.1 e2).bind fun r3 =>
       bif (r3 == x1.2.2.2.2) then
        (gd (x1.2.1.length + ([e2] : List Str).length)).bind fun _ =>
        some (.inl (x1.1, x1.2.1 ++ ([e2] : List Str), x1.2.2.1, x1.2.2.2.1, w64 (x1.2.2.2.2 + 1)))
       else
        some (.inl (x1.1, x1.2.1, x1.2.2.1, x1.2.2.2.1, w64 (x1.2.2.2.2 + 1)))
      else
       (
        (gm x1.2.1).bind fun y4 =>
        some (y4)
       ).bind fun r => some (.inr r)
  )
theorem Ld (xs : List Str) (hl : xs.length <= 1048576) : ∃ ys, kD xs = some ys /\ jG ys /\ ∀ b, b ∈ ys ↔ b ∈ xs := by
 refine bH (g := TV) (fun (out : List Str) (i : Nat) => ((xs, out, xs, (xs.length : Int), (i : Int)) : Vr)) xs (fun i out => out.Nodup /\ out.length <= i /\ ∀ b, b ∈ out ↔ b ∈ xs.take i) (fun ys => jG ys /\ ∀ b, b ∈ ys ↔ b ∈ xs) (fun i x out hx hI => .inl ?_) (fun out hI => ?_) [] ⟨List.Pairwise.nil, Nat.le_refl _, by simp⟩
 ·obtain ⟨i1, i2, i3⟩ := hI
  have hi := (zC.1 hx).1
  have hp := Ir x xs i 0 hx
  rw [Nat.zero_add] at hp
  have ht : xs.take (i + 1) = xs.take i ++ [x] := by
   obtain ⟨hi, rfl⟩ := zC.1 hx
   rw [List.take_succ_eq_append_getElem hi]
  simp only [TV, bK hx, cond_true, aB, hx, zA, xq xs x (by omega), hp, bI hx (by omega)]
  cases hc : (xs.take i).contains x with
  | true =>
   refine ⟨out, by simp only [Bool.not_true, cond_false], i1, by omega, fun b => ?_⟩
   rw [i3, ht, List.mem_append]
   refine ⟨.inl, fun h => ?_⟩
   rcases h with h | h
   ·exact h
   ·rw [List.mem_singleton.1 h]; simpa using hc
  | false =>
   have hnx : x ∉ out := fun h => by
    have := (i3 x).1 h
    have h2 : (xs.take i).contains x = true := by simpa using this
    rw [hc] at h2; cases h2
   refine ⟨out ++ [x], ?_, ?_, by simp; omega, fun b => ?_⟩
   ·simp only [Bool.not_false, cond_true]
    rw [gdp (by simp; omega)]
    rfl
   ·rw [List.nodup_append]
    refine ⟨i1, by simp, fun a ha b hb => ?_⟩
    rw [List.mem_singleton.1 hb]
    rintro rfl
    exact hnx ha
   ·rw [ht, List.mem_append, List.mem_append, i3]
 ·obtain ⟨i1, i2, i3⟩ := hI
  rw [List.take_length] at i3
  refine ⟨out.mergeSort fun x y => decide (x <= y), ?_, ?_, fun b => ?_⟩
  ·simp only [TV, bC, cond_false, gm]
   rw [gdp (by omega)]
   rfl
  ·refine Dc (List.pairwise_mergeSort (fun a b c h1 h2 => ?_) (fun a b => ?_) out) ((List.mergeSort_perm out _).nodup_iff.2 i1)
   ·exact decide_eq_true (List.le_trans (of_decide_eq_true h1) (of_decide_eq_true h2))
   ·rcases List.le_total a b with h | h
    ·rw [decide_eq_true h]; rfl
    ·rw [decide_eq_true h]; simp
  ·rw [(List.mergeSort_perm out _).mem_iff, i3]
def pz (x : Str) : List Str -> List Str
 | [] => [x]
 | y :: r => if y < x then y :: pz x r else if y = x then y :: r else x :: y :: r
theorem Jl (x b : Str) : ∀ (xs : List Str), b ∈ pz x xs ↔ b = x \/ b ∈ xs
 | [] => by simp [pz]
 | y :: r => by
  unfold pz
  split
  ·rw [List.mem_cons, Jl x b r, List.mem_cons]
   constructor
   ·rintro (h | h | h)
    ·exact .inr (.inl h)
    ·exact .inl h
    ·exact .inr (.inr h)
   ·rintro (h | h | h)
    ·exact .inr (.inl h)
    ·exact .inl h
    ·exact .inr (.inr h)
  ·split
   ·rename_i h; subst h
    rw [List.mem_cons]
    constructor
    ·exact .inr
    ·rintro (h | h)
     ·exact .inl h
     ·exact h
   ·rw [List.mem_cons]
theorem RN (x : Str) : ∀ (xs : List Str), (pz x xs).length <= xs.length + 1
 | [] => by simp [pz]
 | y :: r => by
  have := RN x r
  unfold pz
  split
  ·simp; omega
  ·split <;> simp
theorem EU (x : Str) : ∀ (xs : List Str), jG xs -> jG (pz x xs)
 | [], _ => List.pairwise_cons.2 ⟨by simp, List.Pairwise.nil⟩
 | y :: r, h => by
  obtain ⟨h1, h2⟩ := List.pairwise_cons.1 h
  unfold pz
  split
  ·rename_i hlt
   refine List.pairwise_cons.2 ⟨fun b hb => ?_, EU x r h2⟩
   rcases (Jl x b r).1 hb with e | e
   ·rw [e]; exact hlt
   ·exact h1 b e
  ·rename_i hn
   split
   ·exact h
   ·rename_i hne
    have hxy : x < y := by
     rcases Decidable.em (x < y) with h | h
     ·exact h
     ·exact absurd (List.le_antisymm h hn) hne
    refine List.pairwise_cons.2 ⟨fun b hb => ?_, h⟩
    rcases List.mem_cons.1 hb with e | e
    ·rw [e]; exact hxy
    ·exact List.lt_trans hxy (h1 b e)
theorem DK (x : Str) : ∀ (a r : List Str), (∀ y, y ∈ a -> y < x) -> pz x (a ++ r) = a ++ pz x r
 | [], r, _ => rfl
 | y :: a, r, h => by
  show (if y < x then y :: pz x (a ++ r) else _) = _
  rw [if_pos (h y (by simp)), DK x a r fun z hz => h z (List.mem_cons_of_mem _ hz)]
  rfl
abbrev Qb := (List Str) × (List Str) × Int
abbrev aaJ := (List Str) × (List Str) × Int × Int
def kN : aaJ -> Option (aaJ ⊕ (Qb ⊕ List Str)) := (fun (x2 : (List Str) × (List Str) × Int × Int) =>
      bif (decide (x2.2.2.2 < (x2.2.1.length : Int))) then
       (idx x2.2.1 x2.2.2.2).bind fun _ =>
       (x2.2.1[x2.2.2.2.toNat]?).bind fun e4 =>
       (idx x2.1 x2.2.2.1).bind fun e5 =>
       bif (Op.bytesLess e4 e5) then
        some (.inl (x2.1, x2.2.1, x2.2.2.1, w64 (x2.2.2.2 + 1)))
       else
       (
        bif (decide (x2.2.2.2 < (x2.2.1.length : Int))) then
         (idx x2.2.1 x2.2.2.2).bind fun _ =>
         (x2.2.1[x2.2.2.2.toNat]?).bind fun e7 =>
         (idx x2.1 x2.2.2.1).bind fun e8 =>
         bif (e7 == e8) then
          some (.inl (x2.1, x2.2.1, w64 (x2.2.2.1 + 1)))
         else
          (cutAt x2.2.1 x2.2.2.2).bind fun m9 =>
          (gd (0 + (x2.2.1.drop m9).length)).bind fun _ =>
          (cutAt x2.2.1 x2.2.2.2).bind fun m10 =>
          (idx x2.1 x2.2.2.1).bind fun e11 =>
          (gd ((x2.2.1.take m10).length + ([e11] : List Str).length)).bind fun _ =>
          (gd (((x2.2.1.take m10) ++ ([e11] : List Str)).length + ([] ++ (x2.2.1.drop m9)).length)).bind fun _ =>
          some (.inl (x2.1, ((x2.2.1.take m10) ++ ([e11] : List Str)) ++ ([] ++ (x2.2.1.drop m9)), w64 (x2.2.2.1 + 1)))
        else
         (cutAt x2.2.1 x2.2.2.2).bind fun m12 =>
         (gd (0 + (x2.2.1.drop m12).length)).bind fun _ =>
         (cutAt x2.2.1 x2.2.2.2).bind fun m13 =>
         (idx x2.1 x2.2.2.1).bind fun e14 =>
         (gd ((x2.2.1.take m13).length + ([e14] : List Str).length)).bind fun _ =>
         (gd (((x2.2.1.take m13) ++ ([e14] : List Str)).length + ([] ++ (x2.2.1.drop m12)).length)).bind fun _ =>
         some (.inl (x2.1, ((x2.2.1.take m13) ++ ([e14] : List Str)) ++ ([] ++ (x2.2.1.drop m12)), w64 (x2.2.2.1 + 1)))
       ).bind fun r => some (.inr r)
      else
      (
       bif (decide (x2.2.2.2 < (x2.2.1.length : Int))) then
        (idx x2.2.1 x2.2.2.2).bind fun _ =>
        (x2.2.1[x2.2.2.2.toNat]?).bind fun e16 =>
        (idx x2.1 x2.2.2.1).bind fun e17 =>
        bif (e16 == e17) then
         some (.inl (x2.1, x2.2.1, w64 (x2.2.2.1 + 1)))
        else
         (cutAt x2.2.1 x2.2.2.2).bind fun m18 =>
         (gd (0 + (x2.2.1.drop m18).length)).bind fun _ =>
         (cutAt x2.2.1 x2.2.2.2).bind fun m19 =>
         (idx x2.1 x2.2.2.1).bind fun e20 =>
         (gd ((x2.2.1.take m19).length + ([e20] : List Str).length)).bind fun _ =>
         (gd (((x2.2.1.take m19) ++ ([e20] : List Str)).length + ([] ++ (x2.2.1.drop m18)).length)).bind fun _ =>
         some (.inl (x2.1, ((x2.2.1.take m19) ++ ([e20] : List Str)) ++ ([] ++ (x2.2.1.drop m18)), w64 (x2.2.2.1 + 1)))
       else
        (cutAt x2.2.1 x2.2.2.2).bind fun m21 =>
        (gd (0 + (x2.2.1.drop m21).length)).bind fun _ =>
        (cutAt x2.2.1 x2.2.2.2).bind fun m22 =>
        (idx x2.1 x2.2.2.1).bind fun e23 =>
        (gd ((x2.2.1.take m22).length + ([e23] : List Str).length)).bind fun _ =>
        (gd (((x2.2.1.take m22) ++ ([e23] : List Str)).length + ([] ++ (x2.2.1.drop m21)).length)).bind fun _ =>
        some (.inl (x2.1, ((x2.2.1.take m22) ++ ([e23] : List Str)) ++ ([] ++ (x2.2.1.drop m21)), w64 (x2.2.2.1 + 1)))
      ).bind fun r => some (.inr r)
  )
def FV : Qb -> Option (Qb ⊕ List Str) := fun x1 =>
 bif (decide (x1.2.2 < (x1.1.length : Int))) then
  ah kN (x1.1, x1.2.1, x1.2.2, 0)
 else
  some (.inr (x1.2.1))
theorem Ky (xs : List Str) : lq xs = ah FV (xs, [], 0) := rfl
theorem Nz {α : Type} (xs : List α) (i : Nat) (h : i <= xs.length) : cutAt xs (i : Int) = some i := by
 unfold cutAt
 rw [if_pos ⟨by omega, by omega⟩]
 simp
theorem ZM (xs : List Str) (i : Nat) (x : Str) (hx : xs[i]? = some x) (hl : xs.length <= 1048576) (out : List Str) (ho : out.length <= 1048576) :
  ah kN (xs, out, (i : Int), 0) = some (.inl (xs, pz x out, ((i + 1 : Nat) : Int))) := by
 have hi := (zC.1 hx).1
 have hix : idx xs (i : Int) = some x := by rw [aB, hx]
 have hw : w64 ((i : Int) + 1) = ((i + 1 : Nat) : Int) := bI hx (by omega)
 have key : ∀ (k at' : Nat), out.length = at' + k -> (∀ y, y ∈ out.take at' -> y < x) -> ah kN (xs, out, (i : Int), (at' : Int)) = some (.inl (xs, pz x out, ((i + 1 : Nat) : Int))) := by
  intro k
  induction k with
  | zero =>
   intro a ha hlt
   have e : a = out.length := by omega
   subst e
   rw [List.take_length] at hlt
   have hins : pz x out = out ++ [x] := by
    have := DK x out [] hlt
    rw [List.append_nil] at this
    exact this
   have hs : kN (xs, out, (i : Int), (out.length : Int)) = some (.inr (.inl (xs, pz x out, ((i + 1 : Nat) : Int)))) := by
    simp only [kN, bC, cond_false, Nz out out.length (Nat.le_refl _), zA, hix, hw, List.drop_length, List.take_length]
    rw [gdp (by simp), zA, gdp (by simp; omega), zA, gdp (by simp; omega), zA, zA, hins]
    simp
   rw [aH, hs]
  | succ k ih =>
   intro a ha hlt
   have hla : a < out.length := by omega
   have hg := zF hla
   have hdec : decide ((a : Int) < (out.length : Int)) = true := by simp; omega
   have hsplit : out = out.take a ++ out[a] :: out.drop (a + 1) := by
    rw [<- List.drop_eq_getElem_cons hla, List.take_append_drop]
   have hins : pz x out = out.take a ++ pz x (out[a] :: out.drop (a + 1)) := by
    conv => lhs; rw [hsplit]
    exact DK x _ _ hlt
   by_cases hy : out[a] < x
   ·have hs : kN (xs, out, (i : Int), (a : Int)) = some (.inl (xs, out, (i : Int), ((a + 1 : Nat) : Int))) := by
     simp only [kN, hdec, cond_true, aB, hg, hx, zA, Int.toNat_natCast, Go.Proofs.bytesLess_eq, decide_eq_true hy]
     rw [bG (by omega) (by omega)]
     rfl
    rw [aH, hs]
    refine ih (a + 1) (by omega) fun y h => ?_
    rw [List.take_succ_eq_append_getElem hla] at h
    rcases List.mem_append.1 h with h | h
    ·exact hlt y h
    ·rw [List.mem_singleton.1 h]; exact hy
   ·by_cases he : out[a] = x
    ·have hins2 : pz x out = out := by
      rw [hins]
      show out.take a ++ (if out[a] < x then _ else if out[a] = x then out[a] :: out.drop (a + 1) else _) = out
      rw [if_neg hy, if_pos he]
      exact hsplit.symm
     have hs : kN (xs, out, (i : Int), (a : Int)) = some (.inr (.inl (xs, pz x out, ((i + 1 : Nat) : Int)))) := by
      have hbe : (out[a] == x) = true := by simp [he]
      simp only [kN, hdec, cond_true, aB, hg, hx, zA, Int.toNat_natCast, Go.Proofs.bytesLess_eq, decide_eq_false hy, cond_false, hbe, hw, hins2]
     rw [aH, hs]
    ·have hins2 : pz x out = out.take a ++ [x] ++ out.drop a := by
      rw [hins]
      show out.take a ++ (if out[a] < x then _ else if out[a] = x then out[a] :: out.drop (a + 1) else x :: out[a] :: out.drop (a + 1)) = _
      rw [if_neg hy, if_neg he, <- List.drop_eq_getElem_cons hla]
      simp
     have hs : kN (xs, out, (i : Int), (a : Int)) = some (.inr (.inl (xs, pz x out, ((i + 1 : Nat) : Int)))) := by
      have hbe : (out[a] == x) = false := by simp [he]
      simp only [kN, hdec, cond_true, aB, hg, hx, zA, Int.toNat_natCast, Go.Proofs.bytesLess_eq, decide_eq_false hy, cond_false, hbe, hw, Nz out a (by omega)]
      rw [gdp (by simp; omega), zA, gdp (by simp; omega), zA, gdp (by simp; omega), zA, zA, hins2]
      simp
     rw [aH, hs]
 exact key out.length 0 (by omega) (by simp)
theorem Kv (xs : List Str) (hl : xs.length <= 1048576) : ∃ ys, lq xs = some ys /\ jG ys /\ ∀ b, b ∈ ys ↔ b ∈ xs := by
 rw [Ky]
 refine bH (g := FV) (fun (out : List Str) (i : Nat) => ((xs, out, (i : Int)) : Qb)) xs (fun i out => jG out /\ out.length <= i /\ ∀ b, b ∈ out ↔ b ∈ xs.take i) (fun ys => jG ys /\ ∀ b, b ∈ ys ↔ b ∈ xs) (fun i x out hx hI => .inl ?_) (fun out hI => ?_) [] ⟨List.Pairwise.nil, Nat.le_refl _, by simp⟩
 ·obtain ⟨i1, i2, i3⟩ := hI
  have hi := (zC.1 hx).1
  have ht : xs.take (i + 1) = xs.take i ++ [x] := by
   obtain ⟨hi, rfl⟩ := zC.1 hx
   rw [List.take_succ_eq_append_getElem hi]
  refine ⟨pz x out, ?_, EU x out i1, by have := RN x out; omega, fun b => ?_⟩
  ·simp only [FV, bK hx, cond_true]
   exact ZM xs i x hx hl out (by omega)
  ·rw [Jl, i3, ht, List.mem_append, List.mem_singleton]
   exact Or.comm
 ·obtain ⟨i1, i2, i3⟩ := hI
  rw [List.take_length] at i3
  exact ⟨out, by simp only [FV, bC, cond_false], i1, i3⟩
theorem Fh (xs : List Str) (hl : xs.length <= 1048576) : ∃ ys, kD xs = some ys /\ lq xs = some ys /\ jG ys /\ ∀ b, b ∈ ys ↔ b ∈ xs := by
 obtain ⟨ys, h1, h2, h3⟩ := Ld xs hl
 obtain ⟨zs, q1, q2, q3⟩ := Kv xs hl
 have : ys = zs := MB h2 q2 fun b => by rw [h3, q3]
 subst this
 exact ⟨ys, h1, q1, h2, h3⟩
theorem TR : ∀ {xs : List Str} {ys : List Str}, jG xs -> (∀ b, b ∈ xs -> b ∈ ys) -> xs.length <= ys.length := by
 intro xs
 induction xs with
 | nil => intro ys _ _; exact Nat.zero_le _
 | cons x r ih =>
  intro ys h hs
  obtain ⟨h1, h2⟩ := List.pairwise_cons.1 h
  have hx := hs x (by simp)
  have := ih (ys := ys.erase x) h2 fun b hb => by
   have hne : b ≠ x := fun e => by subst e; exact List.lt_irrefl _ (h1 b hb)
   exact (List.mem_erase_of_ne hne).2 (hs b (List.mem_cons_of_mem _ hb))
  rw [List.length_erase_of_mem hx] at this
  have := List.length_pos_of_mem hx
  simp only [List.length_cons]
  omega
theorem FO (e : af) (hw : wtE e <= 1000) : ∃ ys, lM e = some ys /\ tV e = some ys /\ jG ys /\ ys.length <= wtE e /\ ∀ b, b ∈ ys ↔ b ∈ (evE e []).map (·.1) := by
 have h1 := Gl (siz e + 1) e [] (Nat.lt_succ_self _) (by simp; omega)
 have h2 : Hf e [] = some ((evE e []).map (·.1)) := Wx _ e [] (by omega) (by simp; omega)
 have h3 := Cm e []
 obtain ⟨ys, q1, q2, q3, q4⟩ := Fh ((evE e []).map (·.1)) (by rw [List.length_map]; omega)
 refine ⟨ys, ?_, ?_, q3, ?_, q4⟩
 ·unfold lM
  rw [h1, zA, gdp (by omega)]
  exact q1
 ·unfold tV
  rw [bF, h2, zA, q2]
  rfl
 ·have := TR q3 fun b hb => (q4 b).1 hb
  rw [List.length_map] at this
  omega
theorem Qj (a : Str) (hl : a.length <= 34359738368) (h : bP a = some true) : a.length <= 8 := by
 unfold bP at h
 rw [Ag a hl] at h
 by_cases h8 : (a.length : Int) <= 8
 ·omega
 ·rw [decide_eq_false h8, Bool.and_false, Bool.and_false] at h
  cases h
theorem VA {α X Y ρ σ : Type} {f : X -> Option (X ⊕ ρ)} {g : Y -> Option (Y ⊕ ρ)} (px : σ -> Nat -> X) (py : σ -> Nat -> Y) (xs : List α) (I : Nat -> σ -> Prop) (R : ρ -> Prop)
  (hs : ∀ i x s, xs[i]? = some x -> I i s -> (∃ s', f (px s i) = some (.inl (px s' (i + 1))) /\ g (py s i) = some (.inl (py s' (i + 1))) /\ I (i + 1) s') \/ ∃ r, f (px s i) = some (.inr r) /\ g (py s i) = some (.inr r) /\ R r)
  (hf : ∀ s, I xs.length s -> ∃ r, f (px s xs.length) = some (.inr r) /\ g (py s xs.length) = some (.inr r) /\ R r) (s : σ) (h0 : I 0 s) : ∃ r, ah f (px s 0) = some r /\ ah g (py s 0) = some r /\ R r := by
 have key : ∀ (k i : Nat) (s : σ), xs.length = i + k -> I i s -> ∃ r, ah f (px s i) = some r /\ ah g (py s i) = some r /\ R r := by
  intro k
  induction k with
  | zero =>
   intro i s hi hI
   have : i = xs.length := by omega
   subst this
   obtain ⟨r, e1, e2, hR⟩ := hf s hI
   exact ⟨r, by rw [aH, e1], by rw [aH, e2], hR⟩
  | succ k ih =>
   intro i s hi hI
   have hlt : i < xs.length := by omega
   rcases hs i _ s (zF hlt) hI with ⟨s', e1, e2, hI'⟩ | ⟨r, e1, e2, hR⟩
   ·obtain ⟨r, q1, q2, hR⟩ := ih (i + 1) s' (by omega) hI'
    exact ⟨r, by rw [aH, e1]; exact q1, by rw [aH, e2]; exact q2, hR⟩
   ·exact ⟨r, by rw [aH, e1], by rw [aH, e2], hR⟩
 exact key xs.length 0 s (by omega) h0
end
end Go.Proofs.YtgfjbogcidlaeaaGreatDoor
