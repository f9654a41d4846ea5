/- The frame of every law's proof: closed facts of this translation. -/
import Derived.Test.YtdjpggeakgdmmaaLink2
import Derived.Test.YtdjpggeakgdmmaaEnvs
import Derived.Test.YtdjpggeakgdmmaaRows
namespace Go.Abs
open Go.RowKit
theorem FitD.str_le {L : Nat} {s : Str} (h : FitD L (.str s)) : s.length ≤ L := by
  generalize hd : D.str s = d at h
  cases h <;> cases hd
  assumption
theorem FitD.wf {L : Nat} {k : IntKind} {n : Int} (h : FitD L (.int k n)) : (Lit.int k n).wf = true := by
  generalize hd : D.int k n = d at h
  cases h <;> cases hd
  assumption
theorem FitD.list_le {L : Nat} {t : Ty} {xs : List t.den} (h : FitD L (.list t xs)) : xs.length ≤ L := by
  generalize hd : D.list t xs = d at h
  cases h <;> cases hd
  assumption
theorem FitD.list_mem {L : Nat} {t : Ty} {xs : List t.den} (h : FitD L (.list t xs)) : ∀ x, x ∈ xs → ∀ d, d ∈ t.cells x → FitD L d := by
  generalize hd : D.list t xs = d at h
  cases h <;> cases hd
  rename_i hx
  intro x hm d hdm
  obtain ⟨i, hi⟩ := List.mem_iff_getElem?.1 hm
  obtain ⟨j, hj⟩ := List.mem_iff_getElem?.1 hdm
  exact hx i x j d hi hj
end Go.Abs
namespace Go.Proofs.Ytdjpggeakgdmmaa
open Go.Abs Go.Proofs Go.RowKit
theorem elem_ok : elemKinds Try.prog tt = true := by kernel_rfl
theorem own_ok : ownKnob Try.prog.godebug = none := by kernel_rfl
theorem laid_ok : laidOutB Try.prog = true := by kernel_rfl
end Go.Proofs.Ytdjpggeakgdmmaa
