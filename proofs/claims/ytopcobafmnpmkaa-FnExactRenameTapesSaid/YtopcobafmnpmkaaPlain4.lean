/- Plain laws: names, cells and notebooks that are valid; both sides alike. Plain laws: valid cells, notebooks and histories; both sides alike. -/
import Derived.Test.YtopcobafmnpmkaaPlain3
set_option linter.unusedSimpArgs false
set_option linter.unusedVariables false
namespace Go.Proofs.Ytopcobafmnpmkaa
open Go.Abs Go.Proofs

def printable (a : Str) : Bool := allAt (fun c _ => !(decide ((c.toNat : Int) < 32)) && !(decide ((c.toNat : Int) > 126))) a 0 && decide ((a.length : Int) ≤ 120)

def okc (c : UInt8) (i : Nat) : Bool := (decide ((c.toNat : Int) ≥ 97) && decide ((c.toNat : Int) ≤ 122)) || (!((i : Int) == 0) && decide ((c.toNat : Int) ≥ 48) && decide ((c.toNat : Int) ≤ 57))
/-- is the word in the list -/
def hasW : List Str → Str → Bool
  | [], _ => false
  | x :: r, a => x == a || hasW r a

theorem sCellIndex_ok (a : GNotebook) (b : Int) (h : a.cells.length < lim) : sCellIndex a b = some (firstAt (fun c => c.id == b) a.cells 0) := by
  refine scan_first (fun i => ((b, a.cells, (i : Int)) : Int × List GCell × Int)) a.cells (fun c => c.id == b) (fun i x hx => ?_) ?_
  · obtain ⟨hlt, rfl⟩ := List.getElem?_eq_some_iff.1 hx
    simp only [lt_of_nat hlt, cond_true, idx_nat, hx, Option.bind_some, w64_succ hlt h]
  · simp only [nlt_self, cond_false]
theorem iCellIndex_ok (a : GNotebook) (b : Int) (h : a.cells.length < lim) : iCellIndex a b = some (firstAt (fun c => c.id == b) a.cells 0) := by
  refine scan_first (fun i => ((b, a.cells, (a.cells.length : Int), (i : Int)) : Int × List GCell × Int × Int)) a.cells (fun c => c.id == b) (fun i x hx => ?_) ?_
  · obtain ⟨hlt, rfl⟩ := List.getElem?_eq_some_iff.1 hx
    simp only [lt_of_nat hlt, cond_true, idx_nat, hx, Option.bind_some, w64_succ hlt h]
  · simp only [nlt_self, cond_false]
end Go.Proofs.Ytopcobafmnpmkaa
