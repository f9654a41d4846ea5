import Derived.Test.YtgfjbogcidlaeaaGreatDoorS4
import Derived.Test.YtgfjbogcidlaeaaGreatDoorSet0
/- What is reached, by a list of what is still to do. -/
set_option linter.unusedSimpArgs false
set_option linter.unusedVariables false
namespace Go.Abs
theorem I8 {X ρ : Type} {g : X -> Option (X ⊕ ρ)} (I : Nat -> X -> Prop) (R : ρ -> Prop)
  (hs : ∀ n x, I n x -> (∃ y m, m < n /\ I m y /\ g x = some (.inl y)) \/ ∃ r, g x = some (.inr r) /\ R r) : ∀ n x, I n x -> ∃ r, ah g x = some r /\ R r := by
 intro n
 induction n using Nat.strongRecOn with
 | ind n ih =>
  intro x hI
  rcases hs n x hI with ⟨y, m, hm, hI', e1⟩ | ⟨r, e1, hR⟩
  ·obtain ⟨r, q1, hR⟩ := ih m hm y hI'
   exact ⟨r, by rw [aH, e1]; exact q1, hR⟩
  ·exact ⟨r, by rw [aH, e1], hR⟩
structure ad7 (D : Int -> List Int) (n : Nat) (i : Int) (x : List Int × List Int) : Prop where
 nd : x.1.Nodup
 rng : ∀ k, k ∈ x.1 \/ k ∈ x.2 -> 0 <= k /\ k < (n : Int)
 sub : ∀ k, k ∈ x.1 \/ k ∈ x.2 -> Rch D i k
 one : ∀ k, k ∈ D i -> k ∈ x.1 \/ k ∈ x.2
 more : ∀ j, j ∈ x.1 -> ∀ k, k ∈ D j -> k ∈ x.1 \/ k ∈ x.2
theorem Y5 {Do : Int -> Option (List Int)} {D : Int -> List Int} {n : Nat} (hn : n <= 100000) (hG : GOk D n) (hD : ∀ k, 0 <= k -> k < (n : Int) -> Do k = some (D k)) (i : Int) :
  ∃ out, ah (kQ Do) ([], D i) = some out /\ out.length <= n /\ ∀ x, x ∈ out ↔ Rch D i x := by
 have hl0 := hG.len i
 refine I8 (fun m (x : List Int × List Int) => ad7 D n i x /\ x.2.length <= (x.1.length + 1) * n /\ (n - x.1.length) * (n + 1) + x.2.length = m) (fun out : List Int => out.length <= n /\ ∀ x, x ∈ out ↔ Rch D i x) (fun m x hI => ?_) _ ([], D i)
  ⟨⟨.nil, fun k hk => hG.rng i k (hk.elim (fun h => by cases h) id), fun k hk => .one (hk.elim (fun h => by cases h) id), fun k hk => .inr hk, fun j hj => by cases hj⟩, by simpa using hl0, rfl⟩
 obtain ⟨out, todo⟩ := x
 obtain ⟨h, h3, h2⟩ := hI
 have h2 : (n - out.length) * (n + 1) + todo.length = m := h2
 have h3 : todo.length <= (out.length + 1) * n := h3
 have hlen : out.length <= n := Bl h.nd fun k hk => h.rng k (.inl hk)
 have hbig : (out.length + 1) * n <= 100001 * 100000 := Nat.mul_le_mul (by omega) hn
 cases todo with
 | nil =>
  exact .inr ⟨out, rfl, hlen, Rch.closed (fun x hx => h.sub x (.inl hx)) (fun x hx => (h.one x hx).elim id fun q => by cases q) fun k hk x hx => (h.more k hk x hx).elim id fun q => by cases q⟩
 | cons k t =>
  have hk := h.rng k (.inr (by simp))
  unfold kQ
  simp only
  cases hc : out.contains k with
  | true =>
   have hm : k ∈ out := by simpa using hc
   simp only [cond_true]
   refine .inl ⟨(out, t), _, ?_, ⟨⟨h.nd, fun x hx => h.rng x (hx.imp id fun q => List.mem_cons_of_mem _ q), fun x hx => h.sub x (hx.imp id fun q => List.mem_cons_of_mem _ q), fun x hx => ?_, fun j hj x hx => ?_⟩, ?_, rfl⟩, rfl⟩
   ·simp only [List.length_cons] at h2; simp only; omega
   ·rcases h.one x hx with q | q
    ·exact .inl q
    ·rcases List.mem_cons.1 q with rfl | q
     ·exact .inl hm
     ·exact .inr q
   ·rcases h.more j hj x hx with q | q
    ·exact .inl q
    ·rcases List.mem_cons.1 q with rfl | q
     ·exact .inl hm
     ·exact .inr q
   ·simp only [List.length_cons] at h3; simp only; omega
  | false =>
   have hm : k ∉ out := by simpa using hc
   have hDl := hG.len k
   have hnd : (out ++ [k]).Nodup := by
    rw [List.nodup_append]
    exact ⟨h.nd, by simp, fun a ha b hb => by rw [List.mem_singleton.1 hb]; exact fun e => hm (e ▸ ha)⟩
   have hlen2 : (out ++ [k]).length <= n := Bl hnd fun x hx => by
    rcases List.mem_append.1 hx with hx | hx
    ·exact h.rng x (.inl hx)
    ·rw [List.mem_singleton.1 hx]; exact hk
   simp only [List.length_append, List.length_cons, List.length_nil] at hlen2 h2 h3
   have hg1 : gd (out.length + 1) = some () := by unfold gd; rw [if_pos (by omega)]
   have hg2 : gd (t.length + (D k).length) = some () := by unfold gd; rw [if_pos (by omega)]
   simp only [cond_false, hD k hk.1 hk.2, zA, hg1, hg2]
   refine .inl ⟨(out ++ [k], t ++ D k), _, ?_, ⟨⟨hnd, fun x hx => ?_, fun x hx => ?_, fun x hx => ?_, fun j hj x hx => ?_⟩, ?_, rfl⟩, rfl⟩
   ·simp only [List.length_append, List.length_cons, List.length_nil]
    have e : n - out.length = (n - (out.length + (0 + 1))) + 1 := by omega
    rw [e, Nat.add_mul] at h2
    omega
   ·simp only [List.mem_append, List.mem_singleton] at hx
    rcases hx with (hx | rfl) | hx | hx
    ·exact h.rng x (.inl hx)
    ·exact hk
    ·exact h.rng x (.inr (List.mem_cons_of_mem _ hx))
    ·exact hG.rng k x hx
   ·simp only [List.mem_append, List.mem_singleton] at hx
    rcases hx with (hx | rfl) | hx | hx
    ·exact h.sub x (.inl hx)
    ·exact h.sub x (.inr (by simp))
    ·exact h.sub x (.inr (List.mem_cons_of_mem _ hx))
    ·exact .more (h.sub k (.inr (by simp))) hx
   ·simp only [List.mem_append, List.mem_singleton]
    rcases h.one x hx with q | q
    ·exact .inl (.inl q)
    ·rcases List.mem_cons.1 q with rfl | q
     ·exact .inl (.inr rfl)
     ·exact .inr (.inl q)
   ·simp only [List.mem_append, List.mem_singleton]
    rcases List.mem_append.1 hj with hj | hj
    ·rcases h.more j hj x hx with q | q
     ·exact .inl (.inl q)
     ·rcases List.mem_cons.1 q with rfl | q
      ·exact .inl (.inr rfl)
      ·exact .inr (.inl q)
    ·rw [List.mem_singleton.1 hj] at hx
     exact .inr (.inr hx)
   ·simp only [List.length_append, List.length_cons, List.length_nil]
    have e : (out.length + (0 + 1) + 1) * n = (out.length + 1) * n + n := by rw [Nat.zero_add, Nat.add_mul, Nat.one_mul]
    omega
end Go.Abs
