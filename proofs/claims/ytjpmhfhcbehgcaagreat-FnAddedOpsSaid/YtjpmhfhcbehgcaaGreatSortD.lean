/- A list that is put in strict order: there is at most one such order. -/
namespace Go.Abs
open Classical in
/-- the entries of the list in strict order, if there is such an order -/
noncomputable def sortD {α : Type} (lt : α → α → Bool) (xs : List α) : Option (List α) :=
  if h : ∃ ys : List α, ys.Perm xs ∧ ys.Pairwise (fun a b => lt a b = true) then some h.choose else none
theorem sortD_spec {α : Type} {lt : α → α → Bool} {xs ys : List α} (h : sortD lt xs = some ys) : ys.Perm xs ∧ ys.Pairwise (fun a b => lt a b = true) := by
  unfold sortD at h
  split at h
  · next hx => cases h; exact hx.choose_spec
  · cases h
theorem strict_unique {α : Type} {lt : α → α → Bool} (anti : ∀ a b, lt a b = true → lt b a = true → False) : ∀ {xs ys : List α}, xs.Perm ys → xs.Pairwise (fun a b => lt a b = true) → ys.Pairwise (fun a b => lt a b = true) → xs = ys
  | [], ys, hp, _, _ => (List.Perm.nil_eq hp)
  | x :: xs, [], hp, _, _ => by have := hp.length_eq; simp at this
  | x :: xs, y :: ys, hp, hx, hy => by
    have hx' := List.pairwise_cons.1 hx
    have hy' := List.pairwise_cons.1 hy
    have e : x = y := by
      have m1 : x ∈ y :: ys := hp.mem_iff.1 List.mem_cons_self
      have m2 : y ∈ x :: xs := hp.mem_iff.2 List.mem_cons_self
      rcases List.mem_cons.1 m1 with h | h
      · exact h
      rcases List.mem_cons.1 m2 with h' | h'
      · exact h'.symm
      exact (anti _ _ (hy'.1 x h) (hx'.1 y h')).elim
    subst e
    rw [strict_unique anti (List.Perm.cons_inv hp) hx'.2 hy'.2]
theorem sortD_eq {α : Type} {lt : α → α → Bool} (anti : ∀ a b, lt a b = true → lt b a = true → False) {xs ys : List α} (hp : ys.Perm xs) (hs : ys.Pairwise (fun a b => lt a b = true)) : sortD lt xs = some ys := by
  have hx : ∃ ys : List α, ys.Perm xs ∧ ys.Pairwise (fun a b => lt a b = true) := ⟨ys, hp, hs⟩
  unfold sortD
  rw [dif_pos hx, strict_unique anti (hx.choose_spec.1.trans hp.symm) hx.choose_spec.2 hs]
end Go.Abs
