/- Plain laws: names, cells and notebooks that are valid; both sides alike. Plain laws: valid cells, notebooks and histories; both sides alike. -/
import Derived.Test.YtjpmhfhcbehgcaaGreatPlain3
set_option linter.unusedSimpArgs false
set_option linter.unusedVariables false
namespace Go.Proofs.YtjpmhfhcbehgcaaGreat
open Go.Abs Go.Proofs

def printable (a : Str) : Bool := allAt (fun c _ => !(decide ((c.toNat : Int) < 32)) && !(decide ((c.toNat : Int) > 126))) a 0 && decide ((a.length : Int) ≤ 120)

def okc (c : UInt8) (i : Nat) : Bool := (decide ((c.toNat : Int) ≥ 97) && decide ((c.toNat : Int) ≤ 122)) || (!((i : Int) == 0) && decide ((c.toNat : Int) ≥ 48) && decide ((c.toNat : Int) ≤ 57))
theorem sL2Shape_ok (a : Str) (h : a.length < lim) : sL2Shape a = some (allAt okc a 0 && decide ((a.length : Int) > 0)) := by
  refine scan_all (fun i => ((a, (i : Int)) : Str × Int)) a _ _ (fun i x hx => ?_) ?_
  · obtain ⟨hlt, rfl⟩ := List.getElem?_eq_some_iff.1 hx
    simp only [lt_of_nat hlt, cond_true, idx_nat, hx, Option.bind_some, w64_succ hlt h, okc]
    cases decide ((a[i].toNat : Int) ≥ 97) <;> cases decide ((a[i].toNat : Int) ≤ 122) <;> cases decide ((a[i].toNat : Int) ≥ 48) <;> cases decide ((a[i].toNat : Int) ≤ 57) <;> cases ((i : Int) == 0) <;> rfl
  · simp only [nlt_self, cond_false]
/-- is the word in the list -/
def hasW : List Str → Str → Bool
  | [], _ => false
  | x :: r, a => x == a || hasW r a
theorem sL1Has_ok (xs : List Str) (a : Str) (h : xs.length < lim) : sL1Has xs a = some (hasW xs a) := by
  have key : ∀ (n i : Nat), xs.length = i + n → loopD (fun (x1 : (List Str) × Str × Int) =>
    bif (decide (x1.2.2 < (x1.1.length : Int))) then
      (idx x1.1 x1.2.2).bind fun e2 =>
      bif (e2 == x1.2.1) then
        some (.inr (true))
      else
        some (.inl (x1.1, x1.2.1, w64 (x1.2.2 + 1)))
    else
      some (.inr (false))) (xs, a, (i : Int)) = some (hasW (xs.drop i) a) := by
    intro n
    induction n with
    | zero =>
      intro i hi
      have : i = xs.length := by omega
      subst this
      rw [loopD_eq]
      simp only [nlt_self, cond_false, List.drop_length]
      rfl
    | succ n ih =>
      intro i hi
      have hlt : i < xs.length := by omega
      rw [List.drop_eq_getElem_cons hlt, loopD_eq]
      simp only [lt_of_nat hlt, cond_true, idx_nat, List.getElem?_eq_getElem hlt, Option.bind_some, w64_succ hlt h, hasW]
      cases xs[i] == a with
      | true => rfl
      | false => exact ih (i + 1) (by omega)
  exact key xs.length 0 (by omega)

end Go.Proofs.YtjpmhfhcbehgcaaGreat
