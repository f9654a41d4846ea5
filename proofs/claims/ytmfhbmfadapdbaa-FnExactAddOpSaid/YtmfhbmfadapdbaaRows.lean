/-
  NARROWER THAN 'FOR EVERY INPUT', by the rows' own cells (each row's printed sentence says how): FnExactMissingOps: loops · FnExactRenameTapes: loops · FnExactAddOp: loops · FnExactMergeOps: loops.
  DERIVED. THE GIVEN ROWS OF THIS SEAT. 9 by the template 'for every input the law returns true; each argument reads behind the call as it read before'; 0 by the template 'total and deterministic' (their statements: YtmfhbmfadapdbaaTotals.lean).
  GIVEN WITH THE SEED: the statements are not yours to turn. If you find one false, say at which input.
  Laid BY PROGRAM, IN A SANDBOX (cutbox-rows.mjs): the forced cells as the released guide's own fill.sh prints them over the translation 5e84bf043e778b21… (all of the seat's roots in one cut). By AI agents, Wed Nov 11 2026. No macro, syntax, notation, axiom, sorry.
-/
import Derived.Test.YtmfhbmfadapdbaaChecked
import GoSem.Claim
import GoSem.ClaimJoined
import GoSem.ClaimMapViews
import Derived.JoinedTies
import Derived.KernelRfl
namespace Go.Proofs.Ytmfhbmfadapdbaa
/- THE CELL 'sum', in the pinned program and in every row, IS THE sha256 OF THE DUMP (.gsa) THAT YtmfhbmfadapdbaaProg.lean LOADS. Nothing in Lean hashes anything: it is a label: what it is worth is what the hold of that sum in a sandbox is worth. -/
noncomputable def Try.pinned : Pinned := { name := "ytmfhbmfadapdbaa", sum := "5e84bf043e778b21a89abb084f6a74dd40a204e41e446585fabaebb331cb4505", checked := Try.checked }
namespace Rows
def none {H : Type} : Left H := { results := [], args := [] }

/-- 'laws.FnExactInverseBatch': WHATEVER THE INPUT: true; the input reads as it did. -/
def fnExactInverseBatchSpec : ChangeSpec := { name := "fnExactInverseBatch", fn := fun _ => fun
  | [d1, d2] => { results := [.lit (.bool true)], args := [d1, d2] }
  | _ => none }
def fnExactInverseBatchRow : OpenClaim := { program := "ytmfhbmfadapdbaa", sum := "5e84bf043e778b21a89abb084f6a74dd40a204e41e446585fabaebb331cb4505", func := "loop.example/g00510/laws.FnExactInverseBatch", spec := "fnExactInverseBatch", apart := false }
def FnExactInverseBatchSaid : Prop := fnExactInverseBatchRow.holds Try.pinned (OpenSpec.ofChange fnExactInverseBatchSpec)

/-- ITS FALSE NEIGHBOUR: 'it returns false'. Refute it at one input. -/
def fnExactInverseBatchWrong : ChangeSpec := { name := "fnExactInverseBatch", fn := fun _ => fun
  | [d1, d2] => { results := [.lit (.bool false)], args := [d1, d2] }
  | _ => none }
def FnExactInverseBatchWrongFalsely : Prop := fnExactInverseBatchRow.holds Try.pinned (OpenSpec.ofChange fnExactInverseBatchWrong)

/-- 'laws.FnExactRedoEdits': WHATEVER THE INPUT: true; the input reads as it did. -/
def fnExactRedoEditsSpec : ChangeSpec := { name := "fnExactRedoEdits", fn := fun _ => fun
  | [d1, d2] => { results := [.lit (.bool true)], args := [d1, d2] }
  | _ => none }
def fnExactRedoEditsRow : OpenClaim := { program := "ytmfhbmfadapdbaa", sum := "5e84bf043e778b21a89abb084f6a74dd40a204e41e446585fabaebb331cb4505", func := "loop.example/g00510/laws.FnExactRedoEdits", spec := "fnExactRedoEdits", apart := false }
def FnExactRedoEditsSaid : Prop := fnExactRedoEditsRow.holds Try.pinned (OpenSpec.ofChange fnExactRedoEditsSpec)

/-- ITS FALSE NEIGHBOUR: 'it returns false'. Refute it at one input. -/
def fnExactRedoEditsWrong : ChangeSpec := { name := "fnExactRedoEdits", fn := fun _ => fun
  | [d1, d2] => { results := [.lit (.bool false)], args := [d1, d2] }
  | _ => none }
def FnExactRedoEditsWrongFalsely : Prop := fnExactRedoEditsRow.holds Try.pinned (OpenSpec.ofChange fnExactRedoEditsWrong)

/-- 'laws.FnExactUndoEdits': WHATEVER THE INPUT: true; the input reads as it did. -/
def fnExactUndoEditsSpec : ChangeSpec := { name := "fnExactUndoEdits", fn := fun _ => fun
  | [d] => { results := [.lit (.bool true)], args := [d] }
  | _ => none }
def fnExactUndoEditsRow : OpenClaim := { program := "ytmfhbmfadapdbaa", sum := "5e84bf043e778b21a89abb084f6a74dd40a204e41e446585fabaebb331cb4505", func := "loop.example/g00510/laws.FnExactUndoEdits", spec := "fnExactUndoEdits", apart := false }
def FnExactUndoEditsSaid : Prop := fnExactUndoEditsRow.holds Try.pinned (OpenSpec.ofChange fnExactUndoEditsSpec)

/-- ITS FALSE NEIGHBOUR: 'it returns false'. Refute it at one input. -/
def fnExactUndoEditsWrong : ChangeSpec := { name := "fnExactUndoEdits", fn := fun _ => fun
  | [d] => { results := [.lit (.bool false)], args := [d] }
  | _ => none }
def FnExactUndoEditsWrongFalsely : Prop := fnExactUndoEditsRow.holds Try.pinned (OpenSpec.ofChange fnExactUndoEditsWrong)

/-- 'laws.FnExactDoEdits': WHATEVER THE INPUT: true; the input reads as it did. -/
def fnExactDoEditsSpec : ChangeSpec := { name := "fnExactDoEdits", fn := fun _ => fun
  | [d1, d2] => { results := [.lit (.bool true)], args := [d1, d2] }
  | _ => none }
def fnExactDoEditsRow : OpenClaim := { program := "ytmfhbmfadapdbaa", sum := "5e84bf043e778b21a89abb084f6a74dd40a204e41e446585fabaebb331cb4505", func := "loop.example/g00510/laws.FnExactDoEdits", spec := "fnExactDoEdits", apart := false }
def FnExactDoEditsSaid : Prop := fnExactDoEditsRow.holds Try.pinned (OpenSpec.ofChange fnExactDoEditsSpec)

/-- ITS FALSE NEIGHBOUR: 'it returns false'. Refute it at one input. -/
def fnExactDoEditsWrong : ChangeSpec := { name := "fnExactDoEdits", fn := fun _ => fun
  | [d1, d2] => { results := [.lit (.bool false)], args := [d1, d2] }
  | _ => none }
def FnExactDoEditsWrongFalsely : Prop := fnExactDoEditsRow.holds Try.pinned (OpenSpec.ofChange fnExactDoEditsWrong)

/-- 'laws.FnExactGoTo': WHATEVER THE INPUT: true; the input reads as it did. -/
def fnExactGoToSpec : ChangeSpec := { name := "fnExactGoTo", fn := fun _ => fun
  | [d1, d2] => { results := [.lit (.bool true)], args := [d1, d2] }
  | _ => none }
def fnExactGoToRow : OpenClaim := { program := "ytmfhbmfadapdbaa", sum := "5e84bf043e778b21a89abb084f6a74dd40a204e41e446585fabaebb331cb4505", func := "loop.example/g00510/laws.FnExactGoTo", spec := "fnExactGoTo", apart := false }
def FnExactGoToSaid : Prop := fnExactGoToRow.holds Try.pinned (OpenSpec.ofChange fnExactGoToSpec)

/-- ITS FALSE NEIGHBOUR: 'it returns false'. Refute it at one input. -/
def fnExactGoToWrong : ChangeSpec := { name := "fnExactGoTo", fn := fun _ => fun
  | [d1, d2] => { results := [.lit (.bool false)], args := [d1, d2] }
  | _ => none }
def FnExactGoToWrongFalsely : Prop := fnExactGoToRow.holds Try.pinned (OpenSpec.ofChange fnExactGoToWrong)

/-- 'laws.FnExactMissingOps': WHATEVER THE INPUT: true; the input reads as it did. -/
def fnExactMissingOpsSpec : ChangeSpec := { name := "fnExactMissingOps", fn := fun _ => fun
  | [d1, d2] => { results := [.lit (.bool true)], args := [d1, d2] }
  | _ => none }
def fnExactMissingOpsRow : OpenClaim := { program := "ytmfhbmfadapdbaa", sum := "5e84bf043e778b21a89abb084f6a74dd40a204e41e446585fabaebb331cb4505", func := "loop.example/g00510/laws.FnExactMissingOps", spec := "fnExactMissingOps", recurses := true, loops := true, apart := false }
def FnExactMissingOpsSaid : Prop := fnExactMissingOpsRow.holds Try.pinned (OpenSpec.ofChange fnExactMissingOpsSpec)

/-- ITS FALSE NEIGHBOUR: 'it returns false'. Refute it at one input. -/
def fnExactMissingOpsWrong : ChangeSpec := { name := "fnExactMissingOps", fn := fun _ => fun
  | [d1, d2] => { results := [.lit (.bool false)], args := [d1, d2] }
  | _ => none }
def FnExactMissingOpsWrongFalsely : Prop := fnExactMissingOpsRow.holds Try.pinned (OpenSpec.ofChange fnExactMissingOpsWrong)

/-- 'laws.FnExactRenameTapes': WHATEVER THE INPUT: true; the input reads as it did. -/
def fnExactRenameTapesSpec : ChangeSpec := { name := "fnExactRenameTapes", fn := fun _ => fun
  | [d1, d2, d3] => { results := [.lit (.bool true)], args := [d1, d2, d3] }
  | _ => none }
def fnExactRenameTapesRow : OpenClaim := { program := "ytmfhbmfadapdbaa", sum := "5e84bf043e778b21a89abb084f6a74dd40a204e41e446585fabaebb331cb4505", func := "loop.example/g00510/laws.FnExactRenameTapes", spec := "fnExactRenameTapes", recurses := true, loops := true, apart := false }
def FnExactRenameTapesSaid : Prop := fnExactRenameTapesRow.holds Try.pinned (OpenSpec.ofChange fnExactRenameTapesSpec)

/-- ITS FALSE NEIGHBOUR: 'it returns false'. Refute it at one input. -/
def fnExactRenameTapesWrong : ChangeSpec := { name := "fnExactRenameTapes", fn := fun _ => fun
  | [d1, d2, d3] => { results := [.lit (.bool false)], args := [d1, d2, d3] }
  | _ => none }
def FnExactRenameTapesWrongFalsely : Prop := fnExactRenameTapesRow.holds Try.pinned (OpenSpec.ofChange fnExactRenameTapesWrong)

/-- 'laws.FnExactAddOp': WHATEVER THE INPUT: true; the input reads as it did. -/
def fnExactAddOpSpec : ChangeSpec := { name := "fnExactAddOp", fn := fun _ => fun
  | [d1, d2] => { results := [.lit (.bool true)], args := [d1, d2] }
  | _ => none }
def fnExactAddOpRow : OpenClaim := { program := "ytmfhbmfadapdbaa", sum := "5e84bf043e778b21a89abb084f6a74dd40a204e41e446585fabaebb331cb4505", func := "loop.example/g00510/laws.FnExactAddOp", spec := "fnExactAddOp", recurses := true, loops := true, apart := false }
def FnExactAddOpSaid : Prop := fnExactAddOpRow.holds Try.pinned (OpenSpec.ofChange fnExactAddOpSpec)

/-- ITS FALSE NEIGHBOUR: 'it returns false'. Refute it at one input. -/
def fnExactAddOpWrong : ChangeSpec := { name := "fnExactAddOp", fn := fun _ => fun
  | [d1, d2] => { results := [.lit (.bool false)], args := [d1, d2] }
  | _ => none }
def FnExactAddOpWrongFalsely : Prop := fnExactAddOpRow.holds Try.pinned (OpenSpec.ofChange fnExactAddOpWrong)

/-- 'laws.FnExactMergeOps': WHATEVER THE INPUT: true; the input reads as it did. -/
def fnExactMergeOpsSpec : ChangeSpec := { name := "fnExactMergeOps", fn := fun _ => fun
  | [d1, d2] => { results := [.lit (.bool true)], args := [d1, d2] }
  | _ => none }
def fnExactMergeOpsRow : OpenClaim := { program := "ytmfhbmfadapdbaa", sum := "5e84bf043e778b21a89abb084f6a74dd40a204e41e446585fabaebb331cb4505", func := "loop.example/g00510/laws.FnExactMergeOps", spec := "fnExactMergeOps", inPlace := ["internal/reflectlite.ValueOf", "internal/reflectlite.Swapper", "(internal/reflectlite.Value).Len"], unfollowed := true, recurses := true, loops := true, apart := false }
def FnExactMergeOpsSaid : Prop := fnExactMergeOpsRow.holds Try.pinned (OpenSpec.ofChange fnExactMergeOpsSpec)

/-- ITS FALSE NEIGHBOUR: 'it returns false'. Refute it at one input. -/
def fnExactMergeOpsWrong : ChangeSpec := { name := "fnExactMergeOps", fn := fun _ => fun
  | [d1, d2] => { results := [.lit (.bool false)], args := [d1, d2] }
  | _ => none }
def FnExactMergeOpsWrongFalsely : Prop := fnExactMergeOpsRow.holds Try.pinned (OpenSpec.ofChange fnExactMergeOpsWrong)

/- THE SECOND FORM. 'bulk': how many values and letters a reading holds, each counted each time it is reached (what is shared counts as often as it is met; a slice's spare places count too). A statement '..UptoSaid' is the law's where the arguments, and the package variables that the reading takes, are together of bulk at most 1048576: NARROWER than '..Said'. Prove '..Said' where nothing that the law and all that it calls make is longer than what came in: it says more and counts as full. Else prove '..UptoSaid'. A law counts once. -/
mutual
def uptoBulk {H : Type} : DataW H → Nat
  | .lit (.string bytes) => bytes.length + 1
  | .lit _ => 1
  | .nil => 1
  | .ptr d => uptoBulk d + 1
  | .slice elems spare => uptoBulkAll elems + uptoBulkAll spare + 1
  | .agg parts => uptoBulkAll parts + 1
  | .iface _ d => uptoBulk d + 1
  | .map entries => uptoBulkEntries entries + 1
  | .held _ => 1
def uptoBulkAll {H : Type} : List (DataW H) → Nat
  | [] => 0
  | d :: r => uptoBulk d + uptoBulkAll r
def uptoBulkEntries {H : Type} : List (Lit × DataW H) → Nat
  | [] => 0
  | x :: r => uptoBulkEntry x + uptoBulkEntries r
def uptoBulkEntry {H : Type} : Lit × DataW H → Nat
  | (.string bytes, d) => bytes.length + uptoBulk d + 1
  | (_, d) => uptoBulk d + 1
 end
def uptoSmall : (H : Type) → List (DataW H) → Bool := fun _ ds => decide (uptoBulkAll ds ≤ 1048576)
def OpenSpec.upto (s : _root_.Go.ChangeSpec) : _root_.Go.OpenSpec := { _root_.Go.OpenSpec.ofChange s with cond := some uptoSmall }

/-- 'laws.FnExactInverseBatch', WHERE WHAT IT READS IS OF BULK AT MOST 1048576: true; the input reads as it did. -/
def fnExactInverseBatchUptoRow : OpenClaim := { program := "ytmfhbmfadapdbaa", sum := "5e84bf043e778b21a89abb084f6a74dd40a204e41e446585fabaebb331cb4505", func := "loop.example/g00510/laws.FnExactInverseBatch", spec := "fnExactInverseBatch", apart := false, narrowed := true }
def FnExactInverseBatchUptoSaid : Prop := fnExactInverseBatchUptoRow.holds Try.pinned (OpenSpec.upto fnExactInverseBatchSpec)

/-- 'laws.FnExactRedoEdits', WHERE WHAT IT READS IS OF BULK AT MOST 1048576: true; the input reads as it did. -/
def fnExactRedoEditsUptoRow : OpenClaim := { program := "ytmfhbmfadapdbaa", sum := "5e84bf043e778b21a89abb084f6a74dd40a204e41e446585fabaebb331cb4505", func := "loop.example/g00510/laws.FnExactRedoEdits", spec := "fnExactRedoEdits", apart := false, narrowed := true }
def FnExactRedoEditsUptoSaid : Prop := fnExactRedoEditsUptoRow.holds Try.pinned (OpenSpec.upto fnExactRedoEditsSpec)

/-- 'laws.FnExactUndoEdits', WHERE WHAT IT READS IS OF BULK AT MOST 1048576: true; the input reads as it did. -/
def fnExactUndoEditsUptoRow : OpenClaim := { program := "ytmfhbmfadapdbaa", sum := "5e84bf043e778b21a89abb084f6a74dd40a204e41e446585fabaebb331cb4505", func := "loop.example/g00510/laws.FnExactUndoEdits", spec := "fnExactUndoEdits", apart := false, narrowed := true }
def FnExactUndoEditsUptoSaid : Prop := fnExactUndoEditsUptoRow.holds Try.pinned (OpenSpec.upto fnExactUndoEditsSpec)

/-- 'laws.FnExactDoEdits', WHERE WHAT IT READS IS OF BULK AT MOST 1048576: true; the input reads as it did. -/
def fnExactDoEditsUptoRow : OpenClaim := { program := "ytmfhbmfadapdbaa", sum := "5e84bf043e778b21a89abb084f6a74dd40a204e41e446585fabaebb331cb4505", func := "loop.example/g00510/laws.FnExactDoEdits", spec := "fnExactDoEdits", apart := false, narrowed := true }
def FnExactDoEditsUptoSaid : Prop := fnExactDoEditsUptoRow.holds Try.pinned (OpenSpec.upto fnExactDoEditsSpec)

/-- 'laws.FnExactGoTo', WHERE WHAT IT READS IS OF BULK AT MOST 1048576: true; the input reads as it did. -/
def fnExactGoToUptoRow : OpenClaim := { program := "ytmfhbmfadapdbaa", sum := "5e84bf043e778b21a89abb084f6a74dd40a204e41e446585fabaebb331cb4505", func := "loop.example/g00510/laws.FnExactGoTo", spec := "fnExactGoTo", apart := false, narrowed := true }
def FnExactGoToUptoSaid : Prop := fnExactGoToUptoRow.holds Try.pinned (OpenSpec.upto fnExactGoToSpec)

/-- 'laws.FnExactMissingOps', WHERE WHAT IT READS IS OF BULK AT MOST 1048576: true; the input reads as it did. -/
def fnExactMissingOpsUptoRow : OpenClaim := { program := "ytmfhbmfadapdbaa", sum := "5e84bf043e778b21a89abb084f6a74dd40a204e41e446585fabaebb331cb4505", func := "loop.example/g00510/laws.FnExactMissingOps", spec := "fnExactMissingOps", recurses := true, loops := true, apart := false, narrowed := true }
def FnExactMissingOpsUptoSaid : Prop := fnExactMissingOpsUptoRow.holds Try.pinned (OpenSpec.upto fnExactMissingOpsSpec)

/-- 'laws.FnExactRenameTapes', WHERE WHAT IT READS IS OF BULK AT MOST 1048576: true; the input reads as it did. -/
def fnExactRenameTapesUptoRow : OpenClaim := { program := "ytmfhbmfadapdbaa", sum := "5e84bf043e778b21a89abb084f6a74dd40a204e41e446585fabaebb331cb4505", func := "loop.example/g00510/laws.FnExactRenameTapes", spec := "fnExactRenameTapes", recurses := true, loops := true, apart := false, narrowed := true }
def FnExactRenameTapesUptoSaid : Prop := fnExactRenameTapesUptoRow.holds Try.pinned (OpenSpec.upto fnExactRenameTapesSpec)

/-- 'laws.FnExactAddOp', WHERE WHAT IT READS IS OF BULK AT MOST 1048576: true; the input reads as it did. -/
def fnExactAddOpUptoRow : OpenClaim := { program := "ytmfhbmfadapdbaa", sum := "5e84bf043e778b21a89abb084f6a74dd40a204e41e446585fabaebb331cb4505", func := "loop.example/g00510/laws.FnExactAddOp", spec := "fnExactAddOp", recurses := true, loops := true, apart := false, narrowed := true }
def FnExactAddOpUptoSaid : Prop := fnExactAddOpUptoRow.holds Try.pinned (OpenSpec.upto fnExactAddOpSpec)

/-- 'laws.FnExactMergeOps', WHERE WHAT IT READS IS OF BULK AT MOST 1048576: true; the input reads as it did. -/
def fnExactMergeOpsUptoRow : OpenClaim := { program := "ytmfhbmfadapdbaa", sum := "5e84bf043e778b21a89abb084f6a74dd40a204e41e446585fabaebb331cb4505", func := "loop.example/g00510/laws.FnExactMergeOps", spec := "fnExactMergeOps", inPlace := ["internal/reflectlite.ValueOf", "internal/reflectlite.Swapper", "(internal/reflectlite.Value).Len"], unfollowed := true, recurses := true, loops := true, apart := false, narrowed := true }
def FnExactMergeOpsUptoSaid : Prop := fnExactMergeOpsUptoRow.holds Try.pinned (OpenSpec.upto fnExactMergeOpsSpec)

end Rows
end Go.Proofs.Ytmfhbmfadapdbaa
