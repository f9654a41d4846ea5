/- Plain laws: MissingOps, AddOp. -/
import Derived.Test.YtikafaabbikflaaCopy1
set_option linter.unusedSimpArgs false
set_option linter.unusedVariables false
namespace Go.Proofs.Ytikafaabbikflaa
open Go.Abs Go.Proofs

theorem sub_sum {α : Type} (f : α → Nat) {xs ys : List α} (h : xs.Sublist ys) : (xs.map f).sum ≤ (ys.map f).sum := by
  induction h with
  | slnil => exact Nat.le_refl _
  | cons x _ ih => simp only [List.map_cons, List.sum_cons]; omega
  | cons_cons x _ ih => simp only [List.map_cons, List.sum_cons]; omega
theorem sub_snoc {α : Type} {xs ys : List α} {i : Nat} {x : α} (hx : ys[i]? = some x) (h : xs.Sublist (ys.take i)) : (xs ++ [x]).Sublist (ys.take (i + 1)) ∧ xs.Sublist (ys.take (i + 1)) := by
  rw [take_snoc hx]
  exact ⟨h.append (List.Sublist.refl _), h.trans (List.sublist_append_left _ _)⟩
theorem sub_fit {xs ys : List GOp} (h : xs.Sublist ys) (hy : FitD B20 (.list (.base .op) ys)) : FitD B20 (.list (.base .op) xs) :=
  mkList20 (by have := list20 hy; have := h.length_le; omega) fun x hx => hy.list_mem x (h.subset hx)
theorem w64_wf (n : Int) : (Lit.int .i64 (w64 n)).wf = true := by
  unfold Lit.wf w64
  simp [IntKind.wrap, IntKind.bits, IntKind.signed, IntKind.min, IntKind.max]
  omega
end Go.Proofs.Ytikafaabbikflaa
