import Derived.Test.YtgfjbogcidlaeaaGreatDoorLib0
/- Sets of numbers as ascending lists; what can be reached. -/
set_option linter.unusedSimpArgs false
set_option linter.unusedVariables false
namespace Go.Abs
theorem aaG (out : List Int) (n x : Int) : x ∈ addN out n ↔ x ∈ out \/ x = n := by
 unfold addN
 split
 ·rename_i h
  have : n ∈ out := by simpa using h
  constructor
  ·exact .inl
  ·rintro (h | rfl)
   ·exact h
   ·exact this
 ·simp
theorem Vq {out : List Int} (h : out.Nodup) (n : Int) : (addN out n).Nodup := by
 unfold addN
 split
 ·exact h
 ·rename_i hn
  have hn : n ∉ out := by simpa using hn
  rw [List.nodup_append]
  exact ⟨h, by simp, fun a ha b hb => by rw [List.mem_singleton.1 hb]; exact fun e => hn (e ▸ ha)⟩
theorem Nh : ∀ (xs out : List Int) (x : Int), x ∈ xs.foldl addN out ↔ x ∈ out \/ x ∈ xs
 | [], out, x => by simp
 | y :: r, out, x => by
  rw [List.foldl_cons, Nh r, aaG, List.mem_cons, or_assoc]
theorem EY : ∀ (xs : List Int) {out : List Int}, out.Nodup -> (xs.foldl addN out).Nodup
 | [], _, h => h
 | y :: r, _, h => EY r (Vq h y)
theorem Nj : ∀ (xs out : List Int), (xs.foldl addN out).length <= out.length + xs.length
 | [], out => by simp
 | y :: r, out => by
  have h1 := Nj r (addN out y)
  have h2 : (addN out y).length <= out.length + 1 := by unfold addN; split <;> simp
  simp only [List.foldl_cons, List.length_cons]
  omega
theorem GV (xs : List Int) (x : Int) : x ∈ mF xs ↔ x ∈ xs := by
 unfold mF
 rw [List.mem_mergeSort]
 unfold y7
 rw [Nh]; simp
theorem wo (xs : List Int) : (mF xs).Pairwise (· < ·) := by
 have h1 : (mF xs).Pairwise (fun x y => decide (x <= y) = true) := List.pairwise_mergeSort (fun a b c h1 h2 => by simp only [decide_eq_true_eq] at *; omega) (fun a b => by simp; omega) _
 have h2 : (mF xs).Nodup := by
  unfold mF
  exact (List.mergeSort_perm _ _).nodup_iff.2 (EY xs .nil)
 refine (h1.and h2).imp fun {a b} h => ?_
 have := h.1
 simp only [decide_eq_true_eq] at this
 have := h.2
 omega
theorem Zx : ∀ {s t : List Int}, s.Pairwise (· < ·) -> t.Pairwise (· < ·) -> (∀ x, x ∈ s ↔ x ∈ t) -> s = t
 | [], [], _, _, _ => rfl
 | [], y :: t, _, _, h => by have := (h y).2 (by simp); cases this
 | x :: s, [], _, _, h => by have := (h x).1 (by simp); cases this
 | x :: s, y :: t, hs, ht, h => by
  obtain ⟨h1, h2⟩ := List.pairwise_cons.1 hs
  obtain ⟨h3, h4⟩ := List.pairwise_cons.1 ht
  have e : x = y := by
   rcases List.mem_cons.1 ((h x).1 (by simp)) with e | hx
   ·exact e
   rcases List.mem_cons.1 ((h y).2 (by simp)) with e | hy
   ·exact e.symm
   have := h3 x hx
   have := h1 y hy
   omega
  subst e
  rw [Zx h2 h4 fun z => ?_]
  constructor
  ·intro hz
   rcases List.mem_cons.1 ((h z).1 (List.mem_cons_of_mem _ hz)) with e | hz'
   ·have := h1 z hz; omega
   ·exact hz'
  ·intro hz
   rcases List.mem_cons.1 ((h z).2 (List.mem_cons_of_mem _ hz)) with e | hz'
   ·have := h3 z hz; omega
   ·exact hz'
def Du (n : Int) : List Int -> List Int
 | [] => [n]
 | x :: r => if x < n then x :: Du n r else n :: x :: r
theorem OT (n : Int) : ∀ (s : List Int) (j : Nat), j <= s.length -> (∀ x, x ∈ s.take j -> x < n) -> (∀ x, s[j]? = some x -> ¬ x < n) -> s.take j ++ [n] ++ s.drop j = Du n s
 | [], 0, _, _, _ => rfl
 | [], j + 1, h, _, _ => by simp at h
 | x :: r, 0, _, _, h => by
  have := h x rfl
  simp [Du, this]
 | x :: r, j + 1, hl, h1, h2 => by
  have hx := h1 x (by simp)
  have ih := OT n r j (by simpa using hl) (fun y hy => h1 y (by simp [hy])) fun y hy => h2 y (by simpa using hy)
  simp only [List.take_succ_cons, List.drop_succ_cons, List.cons_append, Du, if_pos hx, ih]
theorem Il (n x : Int) : ∀ s : List Int, x ∈ Du n s ↔ x = n \/ x ∈ s
 | [] => by simp [Du]
 | y :: r => by
  unfold Du
  split
  ·rw [List.mem_cons, Il n x r, List.mem_cons]
   constructor
   ·rintro (h | h | h) <;> simp [h]
   ·rintro (h | h | h) <;> simp [h]
  ·simp
theorem EJ (n : Int) : ∀ s : List Int, s.Pairwise (· < ·) -> n ∉ s -> (Du n s).Pairwise (· < ·)
 | [], _, _ => List.pairwise_singleton _ _
 | y :: r, h, hn => by
  obtain ⟨h1, h2⟩ := List.pairwise_cons.1 h
  have hy : n ≠ y := fun e => hn (by simp [e])
  have hr : n ∉ r := fun e => hn (by simp [e])
  unfold Du
  split
  ·rename_i hlt
   refine List.pairwise_cons.2 ⟨fun z hz => ?_, EJ n r h2 hr⟩
   rcases (Il n z r).1 hz with rfl | hz
   ·exact hlt
   ·exact h1 z hz
  ·refine List.pairwise_cons.2 ⟨fun z hz => ?_, h⟩
   rcases List.mem_cons.1 hz with rfl | hz
   ·omega
   ·have := h1 z hz; omega
def La (out : List Int) (n : Int) : List Int := if out.contains n = true then out else Du n out
theorem ZN (out : List Int) (n x : Int) : x ∈ La out n ↔ x ∈ out \/ x = n := by
 unfold La
 split
 ·rename_i h
  have : n ∈ out := by simpa using h
  constructor
  ·exact .inl
  ·rintro (h | rfl)
   ·exact h
   ·exact this
 ·rw [Il]; exact or_comm
theorem RJ {out : List Int} (h : out.Pairwise (· < ·)) (n : Int) : (La out n).Pairwise (· < ·) := by
 unfold La
 split
 ·exact h
 ·rename_i hn
  exact EJ n out h (by simpa using hn)
theorem Nc : ∀ (xs out : List Int) (x : Int), x ∈ xs.foldl La out ↔ x ∈ out \/ x ∈ xs
 | [], out, x => by simp
 | y :: r, out, x => by
  rw [List.foldl_cons, Nc r, ZN, List.mem_cons, or_assoc]
theorem Cf : ∀ (xs : List Int) {out : List Int}, out.Pairwise (· < ·) -> (xs.foldl La out).Pairwise (· < ·)
 | [], _, h => h
 | y :: r, _, h => Cf r (RJ h y)
theorem aaS (xs : List Int) : xs.foldl La [] = mF xs :=
 Zx (Cf xs .nil) (wo xs) fun x => by rw [Nc, GV]; simp
inductive Rch (D : Int -> List Int) (i : Int) : Int -> Prop
 | one {k : Int} : k ∈ D i -> Rch D i k
 | more {j k : Int} : Rch D i j -> k ∈ D j -> Rch D i k
structure GOk (D : Int -> List Int) (n : Nat) : Prop where
 rng : ∀ i k, k ∈ D i -> 0 <= k /\ k < (n : Int)
 srt : ∀ i, (D i).Pairwise (· < ·)
theorem Rch.closed {D : Int -> List Int} {i : Int} {out : List Int} (h1 : ∀ x, x ∈ out -> Rch D i x) (h2 : ∀ x, x ∈ D i -> x ∈ out) (h3 : ∀ k, k ∈ out -> ∀ x, x ∈ D k -> x ∈ out) (x : Int) : x ∈ out ↔ Rch D i x := by
 refine ⟨h1 x, fun h => ?_⟩
 induction h with
 | one h => exact h2 _ h
 | more _ h ih => exact h3 _ ih _ h
theorem AP : ∀ {l U : List Int}, l.Nodup -> (∀ x, x ∈ l -> x ∈ U) -> l.length <= U.length
 | [], U, _, _ => by simp
 | x :: r, U, hn, hs => by
  have hn' := List.nodup_cons.1 hn
  obtain ⟨s, t, e⟩ := List.append_of_mem (hs x (by simp))
  subst e
  have := AP (l := r) (U := s ++ t) hn'.2 fun z hz => by
   have h := hs z (by simp [hz])
   rw [List.mem_append, List.mem_cons] at h
   rcases h with h | rfl | h
   ·exact List.mem_append_left _ h
   ·exact absurd hz hn'.1
   ·exact List.mem_append_right _ h
  simp only [List.length_append, List.length_cons] at this ⊢
  omega
theorem Bl {l : List Int} {n : Nat} (hn : l.Nodup) (hr : ∀ x, x ∈ l -> 0 <= x /\ x < (n : Int)) : l.length <= n := by
 have := AP (U := (List.range n).map fun k : Nat => (k : Int)) hn fun x hx => by
  obtain ⟨h1, h2⟩ := hr x hx
  exact List.mem_map.2 ⟨x.toNat, List.mem_range.2 (by omega), by omega⟩
 simpa using this
theorem I7 {l : List Int} (h : l.Pairwise (· < ·)) : l.Nodup := h.imp fun h e => by omega
theorem GOk.len {D : Int -> List Int} {n : Nat} (h : GOk D n) (i : Int) : (D i).length <= n := Bl (I7 (h.srt i)) (h.rng i)
end Go.Abs
