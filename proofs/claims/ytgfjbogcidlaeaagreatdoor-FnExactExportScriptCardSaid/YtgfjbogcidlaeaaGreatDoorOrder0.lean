import Derived.Test.YtgfjbogcidlaeaaGreatDoorSet0
/- An order of what can be run: each behind what it needs. -/
set_option linter.unusedSimpArgs false
set_option linter.unusedVariables false
namespace Go.Abs
def iY (R : Int -> Bool) (D : Int -> List Int) (out : List Int) (k : Int) : Bool := R k && !out.contains k && (D k).all fun u => !R u || out.contains u
theorem Rch.trans {D : Int -> List Int} {i j k : Int} (h : Rch D i j) (h' : Rch D j k) : Rch D i k := by
 induction h' with
 | one h1 => exact .more h h1
 | more _ h1 ih => exact .more ih h1
theorem filter_lt {p q : Nat -> Bool} (hpq : ∀ x, p x = true -> q x = true) : ∀ (l : List Nat) (x : Nat), x ∈ l -> q x = true -> p x = false -> (l.filter p).length < (l.filter q).length
 | [], x, h, _, _ => by cases h
 | y :: r, x, h, hq, hp => by
  have hle : (r.filter p).length <= (r.filter q).length := by
   clear hq hp h
   induction r with
   | nil => exact Nat.le_refl _
   | cons z r ih =>
    simp only [List.filter_cons]
    cases h1 : p z with
    | true => rw [hpq z h1]; simp [ih]
    | false => cases q z <;> simp <;> omega
  simp only [List.filter_cons]
  rcases List.mem_cons.1 h with rfl | h
  ·rw [hq, hp]; simp; omega
  ·have ih := filter_lt hpq r x h hq hp
   cases h1 : p y with
   | true => rw [hpq y h1]; simp; omega
   | false => cases q y <;> simp <;> omega
open Classical in
noncomputable def UB (D : Int -> List Int) (n : Nat) (k : Int) : Nat := ((List.range n).filter fun x : Nat => decide (Rch D k (x : Int))).length
theorem abt {R : Int -> Bool} {D : Int -> List Int} {n : Nat} (hG : GOk D n) (hR : ∀ k, R k = true -> 0 <= k /\ k < (n : Int)) (hac : ∀ k, R k = true -> ¬ Rch D k k) (out : List Int) :
  ∀ (m : Nat) (k : Int), UB D n k = m -> R k = true -> k ∉ out -> ∃ j, iY R D out j = true := by
 classical
 intro m
 induction m using Nat.strongRecOn with
 | ind m ih =>
  intro k hm hk ho
  by_cases hr : iY R D out k = true
  ·exact ⟨k, hr⟩
  have : ∃ u, u ∈ D k /\ R u = true /\ u ∉ out := by
   have ho' : out.contains k = false := by simpa using ho
   unfold iY at hr
   rw [hk, ho'] at hr
   simp only [Bool.true_and, Bool.not_false] at hr
   have hr : ((D k).all fun u => !R u || out.contains u) = false := by simpa using hr
   rw [List.all_eq_false] at hr
   obtain ⟨u, hu, h⟩ := hr
   refine ⟨u, hu, ?_, ?_⟩
   ·cases h2 : R u with
    | true => rfl
    | false => rw [h2] at h; simp at h
   ·intro hm
    have : out.contains u = true := by simpa using hm
    rw [this] at h; simp at h
  obtain ⟨u, hu, hRu, huo⟩ := this
  have hur := hR u hRu
  refine ih (UB D n u) ?_ u rfl hRu huo
  rw [<- hm]
  unfold UB
  refine filter_lt (fun x hx => ?_) _ u.toNat (List.mem_range.2 (by omega)) ?_ ?_
  ·simp only [decide_eq_true_eq] at hx ⊢
   exact (Rch.one hu).trans hx
  ·have : ((u.toNat : Nat) : Int) = u := by omega
   simp only [this, decide_eq_true_eq]
   exact .one hu
  ·have : ((u.toNat : Nat) : Int) = u := by omega
   simp only [this, decide_eq_false_iff_not]
   exact hac u hRu
def jf (R : Int -> Bool) (D : Int -> List Int) (out : List Int) (n : Nat) : Option Nat := (List.range n).find? fun k : Nat => iY R D out (k : Int)
def zT (R : Int -> Bool) (D : Int -> List Int) (n : Nat) : Nat -> List Int -> List Int
 | 0, out => out
 | m + 1, out => match jf R D out n with
  | none => out
  | some k => zT R D n m (out ++ [(k : Int)])
def fV (R : Int -> Bool) (n : Nat) : Nat := ((List.range n).filter fun k : Nat => R (k : Int)).length
structure vH (R : Int -> Bool) (n : Nat) (out : List Int) : Prop where
 nd : out.Nodup
 run : ∀ k, k ∈ out -> R k = true
theorem vH.len {R : Int -> Bool} {n : Nat} {out : List Int} (h : vH R n out) (hR : ∀ k, R k = true -> 0 <= k /\ k < (n : Int)) : out.length <= fV R n := by
 have := AP (U := ((List.range n).filter fun k : Nat => R (k : Int)).map fun k : Nat => (k : Int)) h.nd fun x hx => by
  have h1 := h.run x hx
  obtain ⟨h2, h3⟩ := hR x h1
  have e : ((x.toNat : Nat) : Int) = x := by omega
  exact List.mem_map.2 ⟨x.toNat, List.mem_filter.2 ⟨List.mem_range.2 (by omega), by rw [e]; exact h1⟩, e⟩
 rw [List.length_map] at this
 exact this
theorem vH.snoc {R : Int -> Bool} {D : Int -> List Int} {n : Nat} {out : List Int} (h : vH R n out) {k : Int} (hk : iY R D out k = true) : vH R n (out ++ [k]) := by
 unfold iY at hk
 simp only [zI] at hk
 obtain ⟨⟨h1, h2⟩, _⟩ := hk
 have ho : k ∉ out := by simpa using h2
 refine ⟨?_, fun x hx => ?_⟩
 ·rw [List.nodup_append]
  exact ⟨h.nd, by simp, fun a ha b hb => by rw [List.mem_singleton.1 hb]; exact fun e => ho (e ▸ ha)⟩
 ·rcases List.mem_append.1 hx with hx | hx
  ·exact h.run x hx
  ·rw [List.mem_singleton.1 hx]; exact h1
theorem rq (R : Int -> Bool) (n : Nat) : fV R n <= n := by
 unfold fV
 have := List.length_filter_le (fun k : Nat => R (k : Int)) (List.range n)
 simpa using this
theorem XH {R : Int -> Bool} {D : Int -> List Int} {n : Nat} (hG : GOk D n) (hR : ∀ k, R k = true -> 0 <= k /\ k < (n : Int)) (hac : ∀ k, R k = true -> ¬ Rch D k k) {out : List Int} (h : vH R n out) (hlt : out.length < fV R n) : ∃ k, jf R D out n = some k := by
 have : ∃ k : Int, R k = true /\ k ∉ out := by
  by_cases hall : ∀ x : Nat, x < n -> R (x : Int) = true -> (x : Int) ∈ out
  ·exfalso
   have hnd : (((List.range n).filter fun k : Nat => R (k : Int)).map fun k : Nat => (k : Int)).Nodup := by
    refine List.Pairwise.map _ (fun a b hab e => hab (Int.ofNat.inj e)) (List.Pairwise.filter _ List.nodup_range)
   have := AP (U := out) hnd fun x hx => by
    obtain ⟨y, hy, rfl⟩ := List.mem_map.1 hx
    obtain ⟨h1, h2⟩ := List.mem_filter.1 hy
    exact hall y (List.mem_range.1 h1) h2
   rw [List.length_map] at this
   unfold fV at hlt
   omega
  ·simp only [Classical.not_forall] at hall
   obtain ⟨x, h1, h2, h3⟩ := hall
   exact ⟨x, h2, h3⟩
 obtain ⟨k, hk, ho⟩ := this
 obtain ⟨j, hj⟩ := abt hG hR hac out _ k rfl hk ho
 have hRj : R j = true := by
  unfold iY at hj
  simp only [zI] at hj
  exact hj.1.1
 obtain ⟨h1, h2⟩ := hR j hRj
 have e : ((j.toNat : Nat) : Int) = j := by omega
 cases hf : jf R D out n with
 | some k => exact ⟨k, rfl⟩
 | none =>
  unfold jf at hf
  rw [List.find?_eq_none] at hf
  exact absurd (by rw [e]; exact hj) (hf j.toNat (List.mem_range.2 (by omega)))
theorem IU {R : Int -> Bool} {D : Int -> List Int} {n k : Nat} {out : List Int} (h : jf R D out n = some k) : k < n /\ iY R D out (k : Int) = true /\ ∀ j, j < k -> iY R D out (j : Int) = false := by
 unfold jf at h
 rw [List.find?_range_eq_some] at h
 obtain ⟨h1, h2, h3⟩ := h
 exact ⟨List.mem_range.1 h2, h1, fun j hj => by simpa using h3 j hj⟩
theorem Zt {R : Int -> Bool} {D : Int -> List Int} {n : Nat} (hR : ∀ k, R k = true -> 0 <= k /\ k < (n : Int)) {out : List Int} (h : vH R n out) (he : out.length = fV R n) : jf R D out n = none := by
 cases hf : jf R D out n with
 | none => rfl
 | some k =>
  have h1 := (h.snoc (IU hf).2.1).len hR
  simp at h1
  omega
end Go.Abs
