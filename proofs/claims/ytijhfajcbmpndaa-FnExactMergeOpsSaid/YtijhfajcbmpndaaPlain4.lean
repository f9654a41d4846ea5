/- Plain laws: names, cells and notebooks that are valid; both sides alike. Plain laws: valid cells, notebooks and histories; both sides alike. -/
import Derived.Test.YtijhfajcbmpndaaPlain3
set_option linter.unusedSimpArgs false
set_option linter.unusedVariables false
namespace Go.Proofs.Ytijhfajcbmpndaa
open Go.Abs Go.Proofs

def printable (a : Str) : Bool := allAt (fun c _ => !(decide ((c.toNat : Int) < 32)) && !(decide ((c.toNat : Int) > 126))) a 0 && decide ((a.length : Int) ≤ 120)

def okc (c : UInt8) (i : Nat) : Bool := (decide ((c.toNat : Int) ≥ 97) && decide ((c.toNat : Int) ≤ 122)) || (!((i : Int) == 0) && decide ((c.toNat : Int) ≥ 48) && decide ((c.toNat : Int) ≤ 57))
/-- is the word in the list -/
def hasW : List Str → Str → Bool
  | [], _ => false
  | x :: r, a => x == a || hasW r a

end Go.Proofs.Ytijhfajcbmpndaa
