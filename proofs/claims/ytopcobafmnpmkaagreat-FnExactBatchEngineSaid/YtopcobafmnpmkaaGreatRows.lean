/-
  NARROWER THAN 'FOR EVERY INPUT', by the rows' own cells (each row's printed sentence says how): FnExactBatchEngine: loops.
  DERIVED. THE GIVEN ROWS OF THIS SEAT. 2 by the template 'for every input the law returns true; each argument reads behind the call as it read before'; 0 by the template 'total and deterministic' (their statements: YtopcobafmnpmkaaGreatTotals.lean).
  GIVEN WITH THE SEED: the statements are not yours to turn. If you find one false, say at which input.
  Laid BY PROGRAM, IN A SANDBOX (cutbox-rows.mjs): the forced cells as the released guide's own fill.sh prints them over the translation 38d955f77d424de4… (all of the seat's roots in one cut). By AI agents, Wed Nov 11 2026. No macro, syntax, notation, axiom, sorry.
-/
import Derived.Test.YtopcobafmnpmkaaGreatChecked
import GoSem.Claim
import GoSem.ClaimJoined
import GoSem.ClaimMapViews
import Derived.JoinedTies
import Derived.KernelRfl
namespace Go.Proofs.YtopcobafmnpmkaaGreat
/- THE CELL 'sum', in the pinned program and in every row, IS THE sha256 OF THE DUMP (.gsa) THAT YtopcobafmnpmkaaGreatProg.lean LOADS. Nothing in Lean hashes anything: it is a label: what it is worth is what the hold of that sum in a sandbox is worth. -/
noncomputable def Tryz.pinned : Pinned := { name := "ytopcobafmnpmkaagreat", sum := "38d955f77d424de4d6d11c84083499a99cb046a653c0eafd06a99171c9adaad8", checked := Tryz.checked }
namespace Rows
def none {H : Type} : Left H := { results := [], args := [] }

/-- 'laws.FnExactBatchEngine': WHATEVER THE INPUT: true; the input reads as it did. -/
def fnExactBatchEngineSpec : ChangeSpec := { name := "fnExactBatchEngine", fn := fun _ => fun
  | [d1, d2] => { results := [.lit (.bool true)], args := [d1, d2] }
  | _ => none }
def fnExactBatchEngineRow : OpenClaim := { program := "ytopcobafmnpmkaagreat", sum := "38d955f77d424de4d6d11c84083499a99cb046a653c0eafd06a99171c9adaad8", func := "loop.example/g00510/laws.FnExactBatchEngine", spec := "fnExactBatchEngine", recurses := true, loops := true, apart := false }
def FnExactBatchEngineSaid : Prop := fnExactBatchEngineRow.holds Tryz.pinned (OpenSpec.ofChange fnExactBatchEngineSpec)

/-- ITS FALSE NEIGHBOUR: 'it returns false'. Refute it at one input. -/
def fnExactBatchEngineWrong : ChangeSpec := { name := "fnExactBatchEngine", fn := fun _ => fun
  | [d1, d2] => { results := [.lit (.bool false)], args := [d1, d2] }
  | _ => none }
def FnExactBatchEngineWrongFalsely : Prop := fnExactBatchEngineRow.holds Tryz.pinned (OpenSpec.ofChange fnExactBatchEngineWrong)

/-- 'laws.FnAddedOps': WHATEVER THE INPUT: true; the input reads as it did. -/
def fnAddedOpsSpec : ChangeSpec := { name := "fnAddedOps", fn := fun _ => fun
  | [d] => { results := [.lit (.bool true)], args := [d] }
  | _ => none }
def fnAddedOpsRow : OpenClaim := { program := "ytopcobafmnpmkaagreat", sum := "38d955f77d424de4d6d11c84083499a99cb046a653c0eafd06a99171c9adaad8", func := "loop.example/g00510/laws.FnAddedOps", spec := "fnAddedOps", recurses := true, apart := false }
def FnAddedOpsSaid : Prop := fnAddedOpsRow.holds Tryz.pinned (OpenSpec.ofChange fnAddedOpsSpec)

/-- ITS FALSE NEIGHBOUR: 'it returns false'. Refute it at one input. -/
def fnAddedOpsWrong : ChangeSpec := { name := "fnAddedOps", fn := fun _ => fun
  | [d] => { results := [.lit (.bool false)], args := [d] }
  | _ => none }
def FnAddedOpsWrongFalsely : Prop := fnAddedOpsRow.holds Tryz.pinned (OpenSpec.ofChange fnAddedOpsWrong)

/- THE SECOND FORM. 'bulk': how many values and letters a reading holds, each counted each time it is reached (what is shared counts as often as it is met; a slice's spare places count too). A statement '..UptoSaid' is the law's where the arguments, and the package variables that the reading takes, are together of bulk at most 1048576: NARROWER than '..Said'. Prove '..Said' where nothing that the law and all that it calls make is longer than what came in: it says more and counts as full. Else prove '..UptoSaid'. A law counts once. -/
mutual
def uptoBulk {H : Type} : DataW H → Nat
  | .lit (.string bytes) => bytes.length + 1
  | .lit _ => 1
  | .nil => 1
  | .ptr d => uptoBulk d + 1
  | .slice elems spare => uptoBulkAll elems + uptoBulkAll spare + 1
  | .agg parts => uptoBulkAll parts + 1
  | .iface _ d => uptoBulk d + 1
  | .map entries => uptoBulkEntries entries + 1
  | .held _ => 1
def uptoBulkAll {H : Type} : List (DataW H) → Nat
  | [] => 0
  | d :: r => uptoBulk d + uptoBulkAll r
def uptoBulkEntries {H : Type} : List (Lit × DataW H) → Nat
  | [] => 0
  | x :: r => uptoBulkEntry x + uptoBulkEntries r
def uptoBulkEntry {H : Type} : Lit × DataW H → Nat
  | (.string bytes, d) => bytes.length + uptoBulk d + 1
  | (_, d) => uptoBulk d + 1
 end
def uptoSmall : (H : Type) → List (DataW H) → Bool := fun _ ds => decide (uptoBulkAll ds ≤ 1048576)
def OpenSpec.upto (s : _root_.Go.ChangeSpec) : _root_.Go.OpenSpec := { _root_.Go.OpenSpec.ofChange s with cond := some uptoSmall }

/-- 'laws.FnExactBatchEngine', WHERE WHAT IT READS IS OF BULK AT MOST 1048576: true; the input reads as it did. -/
def fnExactBatchEngineUptoRow : OpenClaim := { program := "ytopcobafmnpmkaagreat", sum := "38d955f77d424de4d6d11c84083499a99cb046a653c0eafd06a99171c9adaad8", func := "loop.example/g00510/laws.FnExactBatchEngine", spec := "fnExactBatchEngine", recurses := true, loops := true, apart := false, narrowed := true }
def FnExactBatchEngineUptoSaid : Prop := fnExactBatchEngineUptoRow.holds Tryz.pinned (OpenSpec.upto fnExactBatchEngineSpec)

/-- 'laws.FnAddedOps', WHERE WHAT IT READS IS OF BULK AT MOST 1048576: true; the input reads as it did. -/
def fnAddedOpsUptoRow : OpenClaim := { program := "ytopcobafmnpmkaagreat", sum := "38d955f77d424de4d6d11c84083499a99cb046a653c0eafd06a99171c9adaad8", func := "loop.example/g00510/laws.FnAddedOps", spec := "fnAddedOps", recurses := true, apart := false, narrowed := true }
def FnAddedOpsUptoSaid : Prop := fnAddedOpsUptoRow.holds Tryz.pinned (OpenSpec.upto fnAddedOpsSpec)

end Rows
end Go.Proofs.YtopcobafmnpmkaaGreat
