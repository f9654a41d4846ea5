/- The door's condition: what the listed variables are laid with gives the code its ambient world; the start that fits. -/
import Derived.Test.YtceinjokenbhjaaGreatDoorAmb
import Derived.Test.YtceinjokenbhjaaGreatDoorRows
import Derived.Lib.LaidTab
import Derived.Stop.LaidErr
import Derived.Stop.Joined
import Derived.LaidMore
import Derived.LaidHandle
import Derived.MakeChecks
namespace Go.Proofs.YtceinjokenbhjaaGreatDoor
open Go.Abs Go.Proofs Go.RowKit Go.ChangeShapes

abbrev laidL : List (String × DataW Unit) := [("math/bits.deBruijn32tab", Rows.laid_math_bits_deBruijn32tab), ("math/bits.deBruijn64tab", Rows.laid_math_bits_deBruijn64tab), ("internal/strconv.uint64pow10", Rows.laid_internal_strconv_uint64pow10), ("strconv.ErrRange", Rows.laid_strconv_ErrRange), ("strconv.ErrSyntax", Rows.laid_strconv_ErrSyntax)]
theorem dgPow : Tryz.prog.globalNamed "internal/strconv.uint64pow10" = some 3 := by kernel_rfl
theorem dgSyn : Tryz.prog.globalNamed "strconv.ErrSyntax" = some 1 := by kernel_rfl
theorem dgRan : Tryz.prog.globalNamed "strconv.ErrRange" = some 2 := by kernel_rfl
theorem dtPow : (Tryz.prog.globals[3]?).map (·.type) = some 228 := by kernel_rfl
theorem dtSyn : (Tryz.prog.globals[1]?).map (·.type) = some 164 := by kernel_rfl
theorem dtRan : (Tryz.prog.globals[2]?).map (·.type) = some 164 := by kernel_rfl
theorem dStar : "*" ++ "errors.errorString" = "*errors.errorString" := by decide
theorem dRow (u : TypeId) (h : Tryz.prog.typeName? 3 u = some "*errors.errorString") : u = 235 :=
  typeName_ptr_named (nm := "errors.errorString") (by rw [dStar]; kernel_rfl) (by kernel_rfl) (by decide) u (by rw [dStar]; exact h)
def isIfaceB : Option TypeDesc → Bool
  | some (.interface _) => true
  | _ => false
def isOneL (t : TypeId) : List Field → Bool
  | [f] => f.type == t && f.offset == 0
  | _ => false
def isOneB (t : TypeId) : Option TypeDesc → Bool
  | some (.struct fs) => isOneL t fs.toList
  | _ => false
theorem isOneL_some {t : TypeId} : ∀ {l : List Field}, isOneL t l = true → ∃ f, l = [f] ∧ f.type = t ∧ f.offset = 0
  | [], h => by cases h
  | [f], h => by
    have h : (f.type == t && f.offset == 0) = true := h
    simp only [Bool.and_eq_true, beq_iff_eq] at h
    exact ⟨f, rfl, h.1, h.2⟩
  | _ :: _ :: _, h => by cases h
theorem dIfaceB : isIfaceB (Tryz.prog.underlying 164) = true := by kernel_rfl
theorem dStructB : isOneB 9 (Tryz.prog.underlying 237) = true := by kernel_rfl
theorem dIface : ∃ ms, Tryz.prog.underlying 164 = some (.interface ms) := by
  have h := dIfaceB
  unfold isIfaceB at h
  split at h
  · rename_i ms e; exact ⟨ms, e⟩
  · cases h
theorem dStruct : ∃ f : Field, Tryz.prog.underlying 237 = some (.struct #[f]) ∧ f.type = 9 ∧ f.offset = 0 := by
  have h := dStructB
  unfold isOneB at h
  split at h
  · rename_i fs e
    obtain ⟨f, hl, h1, h2⟩ := isOneL_some h
    have hf : fs = #[f] := by
      apply Array.toList_inj.1
      rw [hl]
    exact ⟨f, by rw [e, hf], h1, h2⟩
  · cases h
theorem dPtr : Tryz.prog.underlying 235 = some (.pointer 237) := by kernel_rfl
theorem dStr : Tryz.prog.underlying 9 = some .string := by kernel_rfl
theorem dc1 : Tryz.prog.cellsOf 237 = 1 := by kernel_rfl
theorem dc2 : Tryz.prog.cellsOf 9 = 1 := by kernel_rfl
theorem dArr : Tryz.prog.underlying 228 = some (.array 20 185) := by kernel_rfl
theorem dU64 : Tryz.prog.underlying 185 = some (.int .u64) := by kernel_rfl
theorem dc3 : Tryz.prog.cellsOf 185 = 1 := by kernel_rfl
theorem dc4 : Tryz.prog.cellsOf 228 = 20 := by kernel_rfl
theorem dTab : (Rows.laid_internal_strconv_uint64pow10 : DataW Unit) = Go.Lib.tabData .u64 Go.Lib.pow10Tab := by kernel_rfl
theorem var_size {P : Program} {W : World} {n : String} {cs : Array Value} (h : W.var? P n = some cs) : (P.globalNamed n).getD 0 < W.heap.size := by
  unfold World.var? at h
  cases hg : P.globalNamed n with
  | none => simp [hg] at h
  | some g =>
    simp only [hg, Option.bind_some] at h
    show g < _
    rcases Nat.lt_or_ge g W.heap.size with h' | h'
    · exact h'
    · simp [Array.getElem?_eq_none h'] at h
theorem amb_of_laid {W : World} (h : laidMetH Tryz.prog laidL W) : amb W := by
  rw [MakeChecks.laidMetH_plain _ _ _ (by kernel_rfl)] at h
  have h3 := h.tail.tail
  have h4 := h3.tail
  have h5 := h4.tail
  obtain ⟨ms, hi⟩ := dIface
  obtain ⟨f, he, hft, hfo⟩ := dStruct
  have t1 : Go.Lib.TabIs Tryz.prog W "internal/strconv.uint64pow10" .u64 Go.Lib.pow10Tab := by
    rw [dTab] at h3
    exact Go.Lib.tabIs_of_head dgPow dtPow dArr dU64 dc3 dc4 h3
  obtain ⟨a1, s1, v1, _⟩ := laid_sentinel h4 dgRan dtRan hi dRow dPtr he hft hfo dStr dc1 dc2
  obtain ⟨a2, s2, v2, _⟩ := laid_sentinel h5 dgSyn dtSyn hi dRow dPtr he hft hfo dStr dc1 dc2
  have l1 := var_size (show W.var? Tryz.prog "internal/strconv.uint64pow10" = _ from t1)
  have l2 := var_size v1
  have l3 := var_size v2
  refine ⟨?_, t1, ⟨_, _, v2⟩, ⟨_, _, v1⟩⟩
  unfold ambN
  omega
theorem door_met (os : Os) (args : Array Value) : laidMetH Tryz.prog laidL ((World.doorLaid Tryz.prog 2000 os).forCall (fun _ _ => 0) ⟨#[], args, []⟩).memory :=
  laidMetH_of_parts3 (fuel := 8) (laidMet_of_run' 8 (by kernel_rfl) (by kernel_rfl)) (by kernel_rfl) (by kernel_rfl)
theorem door_shaped (os : Os) (args : Array Value) : ((World.doorLaid Tryz.prog 2000 os).forCall (fun _ _ => 0) ⟨#[], args, []⟩).Shaped Tryz.prog :=
  World.shaped_of_RefB (by kernel_rfl) (by kernel_rfl)
end Go.Proofs.YtceinjokenbhjaaGreatDoor
