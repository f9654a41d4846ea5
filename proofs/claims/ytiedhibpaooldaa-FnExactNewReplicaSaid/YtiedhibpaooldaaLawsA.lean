/- Plain laws: OpBefore, StampVersion, IsValidOp, CountBy, LastTime. -/
import Derived.Test.YtiedhibpaooldaaPlain3
set_option linter.unusedSimpArgs false
set_option linter.unusedVariables false
namespace Go.Proofs.Ytiedhibpaooldaa
open Go.Abs Go.Proofs



theorem countBy_eq (a : List GOp) (b : Int) (h : a.length < lim) : ∃ v, sCountBy a b = some v ∧ iCountBy a b = some v := by
  refine ⟨a.foldl (fun s x => bif x.by_ == b then w64 (s + 1) else s) 0, ?_, ?_⟩
  · refine loop_foldl (fun (s : Int) i => ((a, b, s, (i : Int)) : List GOp × Int × Int × Int)) a (fun s x => bif x.by_ == b then w64 (s + 1) else s) id (fun i x s hx => ?_) (fun s => ?_) 0
    · obtain ⟨hlt, rfl⟩ := List.getElem?_eq_some_iff.1 hx
      simp only [lt_of_nat hlt, cond_true, idx_nat, hx, Option.bind_some, w64_succ hlt h]
      cases a[i].by_ == b <;> rfl
    · simp only [nlt_self, cond_false]; rfl
  · refine loop_foldl (fun (s : Int) i => ((b, s, a, (a.length : Int), (i : Int)) : Int × Int × List GOp × Int × Int)) a (fun s x => bif x.by_ == b then w64 (s + 1) else s) id (fun i x s hx => ?_) (fun s => ?_) 0
    · obtain ⟨hlt, rfl⟩ := List.getElem?_eq_some_iff.1 hx
      simp only [lt_of_nat hlt, cond_true, idx_nat, hx, Option.bind_some, w64_succ hlt h]
      cases a[i].by_ == b <;> rfl
    · simp only [nlt_self, cond_false]; rfl


def seenB (s : List Int) : Bool := allAt (fun n _ => decide (0 ≤ n) && decide (n ≤ 60)) s 0
end Go.Proofs.Ytiedhibpaooldaa
