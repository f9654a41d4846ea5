import Derived.WalkKit
import Derived.Test.YtgfjbogcidlaeaaGreatDoorProg
import Derived.Lib.LaidTab
import Derived.Lib.ItoaNum
import Derived.Shelf.Strconv.Itoa3
import Derived.KernelRfl
/- What the code asks of the world beside its arguments: three variables of the library hold what they were laid with. -/
namespace Go.Abs
open Go.Proofs
noncomputable def oD : Nat := max (max (max ((Tryz.prog.globalNamed "internal/strconv.uint64pow10").getD 0) ((Tryz.prog.globalNamed "strconv.ErrSyntax").getD 0)) ((Tryz.prog.globalNamed "strconv.ErrRange").getD 0)) ((Tryz.prog.globalNamed "internal/bytealg.MaxLen").getD 0) + 1
def amb (w : World) : Prop := (oD <= w.heap.size /\ ∃ m, w.cell? ⟨(Tryz.prog.globalNamed "internal/bytealg.MaxLen").getD 0, 0, none⟩ = some (.int .i64 m)) /\ Go.Lib.TabIs Tryz.prog w "internal/strconv.uint64pow10" .u64 Go.Lib.pow10Tab /\ (∃ tp p, w.var? Tryz.prog "strconv.ErrSyntax" = some #[.iface tp p]) /\ ∃ tp p, w.var? Tryz.prog "strconv.ErrRange" = some #[.iface tp p]
theorem amb.size {w : World} (h : amb w) : oD <= w.heap.size := h.1.1
theorem amb.adR {w : World} (h : amb w) : ∃ m, w.cell? ⟨(Tryz.prog.globalNamed "internal/bytealg.MaxLen").getD 0, 0, none⟩ = some (.int .i64 m) := h.1.2
theorem Gq {w w' : World} {n : String} (hk : ∀ k, k < oD -> w'.heap[k]? = w.heap[k]?) (hn : (Tryz.prog.globalNamed n).getD 0 < oD) : w'.var? Tryz.prog n = w.var? Tryz.prog n := by
 unfold World.var?
 cases hg : Tryz.prog.globalNamed n with
 | none => rfl
 | some g =>
  rw [hg] at hn
  simp only [Option.bind_some]
  rw [hk g hn]
theorem amb.keep {w w' : World} (h : amb w) (hs : w.heap.size <= w'.heap.size) (hk : ∀ k, k < oD -> w'.heap[k]? = w.heap[k]?) : amb w' := by
 have l1 : (Tryz.prog.globalNamed "internal/strconv.uint64pow10").getD 0 < oD := by unfold oD; omega
 have l2 : (Tryz.prog.globalNamed "strconv.ErrSyntax").getD 0 < oD := by unfold oD; omega
 have l3 : (Tryz.prog.globalNamed "strconv.ErrRange").getD 0 < oD := by unfold oD; omega
 have l4 : (Tryz.prog.globalNamed "internal/bytealg.MaxLen").getD 0 < oD := by unfold oD; omega
 refine ⟨⟨Nat.le_trans h.1.1 hs, ?_⟩, ?_, ?_, ?_⟩
 ·obtain ⟨m, hm⟩ := h.1.2
  refine ⟨m, ?_⟩
  unfold World.cell? at hm ⊢
  simp only at hm ⊢
  rw [hk _ l4]
  exact hm
 ·have := h.2.1
  unfold Go.Lib.TabIs at this ⊢
  rw [Gq hk l1]; exact this
 ·rw [Gq hk l2]; exact h.2.2.1
 ·rw [Gq hk l3]; exact h.2.2.2
theorem amb.tab {w : World} (h : amb w) : Go.Lib.TabIs Tryz.prog w "internal/strconv.uint64pow10" .u64 Go.Lib.pow10Tab := h.2.1
end Go.Abs
