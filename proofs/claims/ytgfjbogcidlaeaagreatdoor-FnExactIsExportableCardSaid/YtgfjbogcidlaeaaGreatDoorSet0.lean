import Derived.Test.YtgfjbogcidlaeaaGreatDoorLib0
/- Sets of numbers as ascending lists; what can be reached. -/
set_option linter.unusedSimpArgs false
set_option linter.unusedVariables false
namespace Go.Abs
theorem addN_mem (out : List Int) (n x : Int) : x ∈ addN out n ↔ x ∈ out \/ x = n := by
 unfold addN
 split
 ·rename_i h
  have : n ∈ out := by simpa using h
  constructor
  ·exact .inl
  ·rintro (h | rfl)
   ·exact h
   ·exact this
 ·simp
theorem addN_nodup {out : List Int} (h : out.Nodup) (n : Int) : (addN out n).Nodup := by
 unfold addN
 split
 ·exact h
 ·rename_i hn
  have hn : n ∉ out := by simpa using hn
  rw [List.nodup_append]
  exact ⟨h, by simp, fun a ha b hb => by rw [List.mem_singleton.1 hb]; exact fun e => hn (e ▸ ha)⟩
theorem foldN_mem : ∀ (xs out : List Int) (x : Int), x ∈ xs.foldl addN out ↔ x ∈ out \/ x ∈ xs
 | [], out, x => by simp
 | y :: r, out, x => by
  rw [List.foldl_cons, foldN_mem r, addN_mem, List.mem_cons, or_assoc]
theorem foldN_nodup : ∀ (xs : List Int) {out : List Int}, out.Nodup -> (xs.foldl addN out).Nodup
 | [], _, h => h
 | y :: r, _, h => foldN_nodup r (addN_nodup h y)
theorem foldN_len : ∀ (xs out : List Int), (xs.foldl addN out).length <= out.length + xs.length
 | [], out => by simp
 | y :: r, out => by
  have h1 := foldN_len r (addN out y)
  have h2 : (addN out y).length <= out.length + 1 := by unfold addN; split <;> simp
  simp only [List.foldl_cons, List.length_cons]
  omega
theorem setI_mem (xs : List Int) (x : Int) : x ∈ setI xs ↔ x ∈ xs := by
 unfold setI
 rw [List.mem_mergeSort]
 unfold dedup
 rw [foldN_mem]; simp
theorem setI_sorted (xs : List Int) : (setI xs).Pairwise (· < ·) := by
 have h1 : (setI xs).Pairwise (fun x y => decide (x <= y) = true) := List.pairwise_mergeSort (fun a b c h1 h2 => by simp only [decide_eq_true_eq] at *; omega) (fun a b => by simp; omega) _
 have h2 : (setI xs).Nodup := by
  unfold setI
  exact (List.mergeSort_perm _ _).nodup_iff.2 (foldN_nodup xs .nil)
 refine (h1.and h2).imp fun {a b} h => ?_
 have := h.1
 simp only [decide_eq_true_eq] at this
 have := h.2
 omega
theorem lt_ext : ∀ {s t : List Int}, s.Pairwise (· < ·) -> t.Pairwise (· < ·) -> (∀ x, x ∈ s ↔ x ∈ t) -> s = t
 | [], [], _, _, _ => rfl
 | [], y :: t, _, _, h => by have := (h y).2 (by simp); cases this
 | x :: s, [], _, _, h => by have := (h x).1 (by simp); cases this
 | x :: s, y :: t, hs, ht, h => by
  obtain ⟨h1, h2⟩ := List.pairwise_cons.1 hs
  obtain ⟨h3, h4⟩ := List.pairwise_cons.1 ht
  have e : x = y := by
   rcases List.mem_cons.1 ((h x).1 (by simp)) with e | hx
   ·exact e
   rcases List.mem_cons.1 ((h y).2 (by simp)) with e | hy
   ·exact e.symm
   have := h3 x hx
   have := h1 y hy
   omega
  subst e
  rw [lt_ext h2 h4 fun z => ?_]
  constructor
  ·intro hz
   rcases List.mem_cons.1 ((h z).1 (List.mem_cons_of_mem _ hz)) with e | hz'
   ·have := h1 z hz; omega
   ·exact hz'
  ·intro hz
   rcases List.mem_cons.1 ((h z).2 (List.mem_cons_of_mem _ hz)) with e | hz'
   ·have := h3 z hz; omega
   ·exact hz'
def putZ (n : Int) : List Int -> List Int
 | [] => [n]
 | x :: r => if x < n then x :: putZ n r else n :: x :: r
theorem putZ_eq (n : Int) : ∀ (s : List Int) (j : Nat), j <= s.length -> (∀ x, x ∈ s.take j -> x < n) -> (∀ x, s[j]? = some x -> ¬ x < n) -> s.take j ++ [n] ++ s.drop j = putZ n s
 | [], 0, _, _, _ => rfl
 | [], j + 1, h, _, _ => by simp at h
 | x :: r, 0, _, _, h => by
  have := h x rfl
  simp [putZ, this]
 | x :: r, j + 1, hl, h1, h2 => by
  have hx := h1 x (by simp)
  have ih := putZ_eq n r j (by simpa using hl) (fun y hy => h1 y (by simp [hy])) fun y hy => h2 y (by simpa using hy)
  simp only [List.take_succ_cons, List.drop_succ_cons, List.cons_append, putZ, if_pos hx, ih]
theorem putZ_mem (n x : Int) : ∀ s : List Int, x ∈ putZ n s ↔ x = n \/ x ∈ s
 | [] => by simp [putZ]
 | y :: r => by
  unfold putZ
  split
  ·rw [List.mem_cons, putZ_mem n x r, List.mem_cons]
   constructor
   ·rintro (h | h | h) <;> simp [h]
   ·rintro (h | h | h) <;> simp [h]
  ·simp
theorem putZ_sorted (n : Int) : ∀ s : List Int, s.Pairwise (· < ·) -> n ∉ s -> (putZ n s).Pairwise (· < ·)
 | [], _, _ => List.pairwise_singleton _ _
 | y :: r, h, hn => by
  obtain ⟨h1, h2⟩ := List.pairwise_cons.1 h
  have hy : n ≠ y := fun e => hn (by simp [e])
  have hr : n ∉ r := fun e => hn (by simp [e])
  unfold putZ
  split
  ·rename_i hlt
   refine List.pairwise_cons.2 ⟨fun z hz => ?_, putZ_sorted n r h2 hr⟩
   rcases (putZ_mem n z r).1 hz with rfl | hz
   ·exact hlt
   ·exact h1 z hz
  ·refine List.pairwise_cons.2 ⟨fun z hz => ?_, h⟩
   rcases List.mem_cons.1 hz with rfl | hz
   ·omega
   ·have := h1 z hz; omega
def insZ (out : List Int) (n : Int) : List Int := if out.contains n = true then out else putZ n out
theorem insZ_mem (out : List Int) (n x : Int) : x ∈ insZ out n ↔ x ∈ out \/ x = n := by
 unfold insZ
 split
 ·rename_i h
  have : n ∈ out := by simpa using h
  constructor
  ·exact .inl
  ·rintro (h | rfl)
   ·exact h
   ·exact this
 ·rw [putZ_mem]; exact or_comm
theorem insZ_sorted {out : List Int} (h : out.Pairwise (· < ·)) (n : Int) : (insZ out n).Pairwise (· < ·) := by
 unfold insZ
 split
 ·exact h
 ·rename_i hn
  exact putZ_sorted n out h (by simpa using hn)
theorem foldZ_mem : ∀ (xs out : List Int) (x : Int), x ∈ xs.foldl insZ out ↔ x ∈ out \/ x ∈ xs
 | [], out, x => by simp
 | y :: r, out, x => by
  rw [List.foldl_cons, foldZ_mem r, insZ_mem, List.mem_cons, or_assoc]
theorem foldZ_sorted : ∀ (xs : List Int) {out : List Int}, out.Pairwise (· < ·) -> (xs.foldl insZ out).Pairwise (· < ·)
 | [], _, h => h
 | y :: r, _, h => foldZ_sorted r (insZ_sorted h y)
theorem setZ_eq (xs : List Int) : xs.foldl insZ [] = setI xs :=
 lt_ext (foldZ_sorted xs .nil) (setI_sorted xs) fun x => by rw [foldZ_mem, setI_mem]; simp
inductive Rch (D : Int -> List Int) (i : Int) : Int -> Prop
 | one {k : Int} : k ∈ D i -> Rch D i k
 | more {j k : Int} : Rch D i j -> k ∈ D j -> Rch D i k
structure GOk (D : Int -> List Int) (n : Nat) : Prop where
 rng : ∀ i k, k ∈ D i -> 0 <= k /\ k < (n : Int)
 srt : ∀ i, (D i).Pairwise (· < ·)
theorem Rch.closed {D : Int -> List Int} {i : Int} {out : List Int} (h1 : ∀ x, x ∈ out -> Rch D i x) (h2 : ∀ x, x ∈ D i -> x ∈ out) (h3 : ∀ k, k ∈ out -> ∀ x, x ∈ D k -> x ∈ out) (x : Int) : x ∈ out ↔ Rch D i x := by
 refine ⟨h1 x, fun h => ?_⟩
 induction h with
 | one h => exact h2 _ h
 | more _ h ih => exact h3 _ ih _ h
theorem sub_lenI : ∀ {l U : List Int}, l.Nodup -> (∀ x, x ∈ l -> x ∈ U) -> l.length <= U.length
 | [], U, _, _ => by simp
 | x :: r, U, hn, hs => by
  have hn' := List.nodup_cons.1 hn
  obtain ⟨s, t, e⟩ := List.append_of_mem (hs x (by simp))
  subst e
  have := sub_lenI (l := r) (U := s ++ t) hn'.2 fun z hz => by
   have h := hs z (by simp [hz])
   rw [List.mem_append, List.mem_cons] at h
   rcases h with h | rfl | h
   ·exact List.mem_append_left _ h
   ·exact absurd hz hn'.1
   ·exact List.mem_append_right _ h
  simp only [List.length_append, List.length_cons] at this ⊢
  omega
theorem rng_len {l : List Int} {n : Nat} (hn : l.Nodup) (hr : ∀ x, x ∈ l -> 0 <= x /\ x < (n : Int)) : l.length <= n := by
 have := sub_lenI (U := (List.range n).map fun k : Nat => (k : Int)) hn fun x hx => by
  obtain ⟨h1, h2⟩ := hr x hx
  exact List.mem_map.2 ⟨x.toNat, List.mem_range.2 (by omega), by omega⟩
 simpa using this
theorem lt_nodup {l : List Int} (h : l.Pairwise (· < ·)) : l.Nodup := h.imp fun h e => by omega
theorem GOk.len {D : Int -> List Int} {n : Nat} (h : GOk D n) (i : Int) : (D i).length <= n := rng_len (lt_nodup (h.srt i)) (h.rng i)
end Go.Abs
