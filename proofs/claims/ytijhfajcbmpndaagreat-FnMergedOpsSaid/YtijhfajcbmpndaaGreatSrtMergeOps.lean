/- The sort of operations: the library's contract at this program, and what the evaluator asks of it. -/
import Derived.Test.YtijhfajcbmpndaaGreatDen0
import Derived.Test.YtijhfajcbmpndaaGreatSrtW
import Derived.Test.YtijhfajcbmpndaaGreatLtOp2
set_option linter.unusedSimpArgs false
set_option linter.unusedVariables false
namespace Go.Proofs.YtijhfajcbmpndaaGreat
open Go.Abs Go.Proofs Go.Shelf Go.RowKit Go.Lib Go.Sort

noncomputable def siT : TypeInfo := (Tryz.prog.info? 26).get (by kernel_rfl)
noncomputable def siE : TypeInfo := (Tryz.prog.info? 59).get (by kernel_rfl)
theorem siK (n : Nat) (h2 : 2 ≤ n) : Lib.swapperK n siE 25 = 9 := by
  have a : siE.hasPointers = true := by kernel_rfl
  have b : (siE.bytes == 8) = false := by kernel_rfl
  have c : (n == 0) = false := by simp; omega
  have d : (n == 1) = false := by simp; omega
  simp only [Lib.swapperK, a, b, c, d]
  rfl
theorem stable_ops : StableOn Tryz.prog 32 33 26 (Ty.base .op).size := by
  intro α _ enc lt lb blk off c d w hk h1 hS h2 hsz hL hH hb
  have h := sort_SliceStable_cells sl8 26 59 siT siE (by kernel_rfl) (by kernel_rfl) (by kernel_rfl) (by kernel_rfl) 25 (fun _ => by kernel_rfl) enc 17 hk (by kernel_rfl) (fun _ => by kernel_rfl) h1 lt hS
    33 lb (enters_of Tryz.func33 (by kernel_rfl) rfl) blk off c d h2 hsz 101 (by rw [siK _ h2]; kernel_rfl) false
    (fun args W => run_callFunc_extern Tryz.func101 (by kernel_rfl) (by kernel_rfl) (by kernel_rfl) (e := Extern.ReflectliteSwapper.swap false) (by kernel_rfl) args W) w hL hH hb
  exact h
theorem tiny_ops : TinyOn Tryz.prog 32 33 26 := by
  intro p n c lb w hn
  have h : n = 0 ∨ n = 1 := by omega
  rcases h with rfl | rfl
  · exact Any.sort_SliceStable_tiny sl8 26 59 siT siE (by kernel_rfl) (by kernel_rfl) (by kernel_rfl) (by kernel_rfl) 25 (fun _ => by kernel_rfl) p 0 c (by omega) 93 (by kernel_rfl) (.func 33) #[] lb w
  · exact Any.sort_SliceStable_tiny sl8 26 59 siT siE (by kernel_rfl) (by kernel_rfl) (by kernel_rfl) (by kernel_rfl) 25 (fun _ => by kernel_rfl) p 1 c (by omega) 94 (by kernel_rfl) (.func 33) #[] lb w
theorem srtMergeOps_sound : SrtSound Tryz.prog srtMergeOps :=
  srt_sound srtMergeOps linkOp ltOp swo_ltOp sortMergeOps_eq linkOp_of less_walk stable_ops tiny_ops
theorem srtsMergeOps_ok : ∀ s, s ∈ [srtMergeOps] → callable Tryz.prog s.fid = true ∧ SrtSound Tryz.prog s ∧ ∃ d, Tryz.prog.underlying s.T = some d ∧ ∀ ms, d ≠ .interface ms := fun s hs => by
  rw [List.mem_singleton] at hs
  subst hs
  exact ⟨by kernel_rfl, srtMergeOps_sound, _, Tryz.underlying26, fun ms h => by cases h⟩
end Go.Proofs.YtijhfajcbmpndaaGreat
