/-
  NARROWER THAN 'FOR EVERY INPUT', by the rows' own cells (each row's printed sentence says how): FnExactHasSeen: loops · FnExactIsValidLog: loops · FnExactEqualOp: loops · FnExactIsValidReplica: loops · FnExactSeenBy: loops · FnExactEqualDocument: loops.
  DERIVED. THE GIVEN ROWS OF THIS SEAT. 12 by the template 'for every input the law returns true; each argument reads behind the call as it read before'; 0 by the template 'total and deterministic' (their statements: YtiedhibpaooldaaTotals.lean).
  GIVEN WITH THE SEED: the statements are not yours to turn. If you find one false, say at which input.
  Laid BY PROGRAM, IN A SANDBOX (cutbox-rows.mjs): the forced cells as the released guide's own fill.sh prints them over the translation ca7e50efb74107ba… (all of the seat's roots in one cut). By AI agents, Wed Nov 11 2026. No macro, syntax, notation, axiom, sorry.
-/
import Derived.Test.YtiedhibpaooldaaChecked
import GoSem.Claim
import GoSem.ClaimJoined
import GoSem.ClaimMapViews
import Derived.JoinedTies
import Derived.KernelRfl
namespace Go.Proofs.Ytiedhibpaooldaa
/- THE CELL 'sum', in the pinned program and in every row, IS THE sha256 OF THE DUMP (.gsa) THAT YtiedhibpaooldaaProg.lean LOADS. Nothing in Lean hashes anything: it is a label: what it is worth is what the hold of that sum in a sandbox is worth. -/
noncomputable def Try.pinned : Pinned := { name := "ytiedhibpaooldaa", sum := "ca7e50efb74107ba4ece05046dd608d89537b1d114773e908bc0fac451fe7045", checked := Try.checked }
namespace Rows
def none {H : Type} : Left H := { results := [], args := [] }

/-- 'laws.FnExactChangedVersions': WHATEVER THE INPUT: true; the input reads as it did. -/
def fnExactChangedVersionsSpec : ChangeSpec := { name := "fnExactChangedVersions", fn := fun _ => fun
  | [d1, d2] => { results := [.lit (.bool true)], args := [d1, d2] }
  | _ => none }
def fnExactChangedVersionsRow : OpenClaim := { program := "ytiedhibpaooldaa", sum := "ca7e50efb74107ba4ece05046dd608d89537b1d114773e908bc0fac451fe7045", func := "loop.example/g00510/laws.FnExactChangedVersions", spec := "fnExactChangedVersions", apart := false }
def FnExactChangedVersionsSaid : Prop := fnExactChangedVersionsRow.holds Try.pinned (OpenSpec.ofChange fnExactChangedVersionsSpec)

/-- ITS FALSE NEIGHBOUR: 'it returns false'. Refute it at one input. -/
def fnExactChangedVersionsWrong : ChangeSpec := { name := "fnExactChangedVersions", fn := fun _ => fun
  | [d1, d2] => { results := [.lit (.bool false)], args := [d1, d2] }
  | _ => none }
def FnExactChangedVersionsWrongFalsely : Prop := fnExactChangedVersionsRow.holds Try.pinned (OpenSpec.ofChange fnExactChangedVersionsWrong)

/-- 'laws.FnExactNewHistory': WHATEVER THE INPUT: true; the input reads as it did. -/
def fnExactNewHistorySpec : ChangeSpec := { name := "fnExactNewHistory", fn := fun _ => fun
  | [d] => { results := [.lit (.bool true)], args := [d] }
  | _ => none }
def fnExactNewHistoryRow : OpenClaim := { program := "ytiedhibpaooldaa", sum := "ca7e50efb74107ba4ece05046dd608d89537b1d114773e908bc0fac451fe7045", func := "loop.example/g00510/laws.FnExactNewHistory", spec := "fnExactNewHistory", apart := false }
def FnExactNewHistorySaid : Prop := fnExactNewHistoryRow.holds Try.pinned (OpenSpec.ofChange fnExactNewHistorySpec)

/-- ITS FALSE NEIGHBOUR: 'it returns false'. Refute it at one input. -/
def fnExactNewHistoryWrong : ChangeSpec := { name := "fnExactNewHistory", fn := fun _ => fun
  | [d] => { results := [.lit (.bool false)], args := [d] }
  | _ => none }
def FnExactNewHistoryWrongFalsely : Prop := fnExactNewHistoryRow.holds Try.pinned (OpenSpec.ofChange fnExactNewHistoryWrong)

/-- 'laws.FnExactIsNoChange': WHATEVER THE INPUT: true; the input reads as it did. -/
def fnExactIsNoChangeSpec : ChangeSpec := { name := "fnExactIsNoChange", fn := fun _ => fun
  | [d1, d2] => { results := [.lit (.bool true)], args := [d1, d2] }
  | _ => none }
def fnExactIsNoChangeRow : OpenClaim := { program := "ytiedhibpaooldaa", sum := "ca7e50efb74107ba4ece05046dd608d89537b1d114773e908bc0fac451fe7045", func := "loop.example/g00510/laws.FnExactIsNoChange", spec := "fnExactIsNoChange", apart := false }
def FnExactIsNoChangeSaid : Prop := fnExactIsNoChangeRow.holds Try.pinned (OpenSpec.ofChange fnExactIsNoChangeSpec)

/-- ITS FALSE NEIGHBOUR: 'it returns false'. Refute it at one input. -/
def fnExactIsNoChangeWrong : ChangeSpec := { name := "fnExactIsNoChange", fn := fun _ => fun
  | [d1, d2] => { results := [.lit (.bool false)], args := [d1, d2] }
  | _ => none }
def FnExactIsNoChangeWrongFalsely : Prop := fnExactIsNoChangeRow.holds Try.pinned (OpenSpec.ofChange fnExactIsNoChangeWrong)

/-- 'laws.FnExactHasSeen': WHATEVER THE INPUT: true; the input reads as it did. -/
def fnExactHasSeenSpec : ChangeSpec := { name := "fnExactHasSeen", fn := fun _ => fun
  | [d1, d2, d3] => { results := [.lit (.bool true)], args := [d1, d2, d3] }
  | _ => none }
def fnExactHasSeenRow : OpenClaim := { program := "ytiedhibpaooldaa", sum := "ca7e50efb74107ba4ece05046dd608d89537b1d114773e908bc0fac451fe7045", func := "loop.example/g00510/laws.FnExactHasSeen", spec := "fnExactHasSeen", recurses := true, loops := true, apart := false }
def FnExactHasSeenSaid : Prop := fnExactHasSeenRow.holds Try.pinned (OpenSpec.ofChange fnExactHasSeenSpec)

/-- ITS FALSE NEIGHBOUR: 'it returns false'. Refute it at one input. -/
def fnExactHasSeenWrong : ChangeSpec := { name := "fnExactHasSeen", fn := fun _ => fun
  | [d1, d2, d3] => { results := [.lit (.bool false)], args := [d1, d2, d3] }
  | _ => none }
def FnExactHasSeenWrongFalsely : Prop := fnExactHasSeenRow.holds Try.pinned (OpenSpec.ofChange fnExactHasSeenWrong)

/-- 'laws.FnExactPathTo': WHATEVER THE INPUT: true; the input reads as it did. -/
def fnExactPathToSpec : ChangeSpec := { name := "fnExactPathTo", fn := fun _ => fun
  | [d1, d2] => { results := [.lit (.bool true)], args := [d1, d2] }
  | _ => none }
def fnExactPathToRow : OpenClaim := { program := "ytiedhibpaooldaa", sum := "ca7e50efb74107ba4ece05046dd608d89537b1d114773e908bc0fac451fe7045", func := "loop.example/g00510/laws.FnExactPathTo", spec := "fnExactPathTo", apart := false }
def FnExactPathToSaid : Prop := fnExactPathToRow.holds Try.pinned (OpenSpec.ofChange fnExactPathToSpec)

/-- ITS FALSE NEIGHBOUR: 'it returns false'. Refute it at one input. -/
def fnExactPathToWrong : ChangeSpec := { name := "fnExactPathTo", fn := fun _ => fun
  | [d1, d2] => { results := [.lit (.bool false)], args := [d1, d2] }
  | _ => none }
def FnExactPathToWrongFalsely : Prop := fnExactPathToRow.holds Try.pinned (OpenSpec.ofChange fnExactPathToWrong)

/-- 'laws.FnExactApplyBatch': WHATEVER THE INPUT: true; the input reads as it did. -/
def fnExactApplyBatchSpec : ChangeSpec := { name := "fnExactApplyBatch", fn := fun _ => fun
  | [d1, d2] => { results := [.lit (.bool true)], args := [d1, d2] }
  | _ => none }
def fnExactApplyBatchRow : OpenClaim := { program := "ytiedhibpaooldaa", sum := "ca7e50efb74107ba4ece05046dd608d89537b1d114773e908bc0fac451fe7045", func := "loop.example/g00510/laws.FnExactApplyBatch", spec := "fnExactApplyBatch", apart := false }
def FnExactApplyBatchSaid : Prop := fnExactApplyBatchRow.holds Try.pinned (OpenSpec.ofChange fnExactApplyBatchSpec)

/-- ITS FALSE NEIGHBOUR: 'it returns false'. Refute it at one input. -/
def fnExactApplyBatchWrong : ChangeSpec := { name := "fnExactApplyBatch", fn := fun _ => fun
  | [d1, d2] => { results := [.lit (.bool false)], args := [d1, d2] }
  | _ => none }
def FnExactApplyBatchWrongFalsely : Prop := fnExactApplyBatchRow.holds Try.pinned (OpenSpec.ofChange fnExactApplyBatchWrong)

/-- 'laws.FnExactIsValidLog': WHATEVER THE INPUT: true; the input reads as it did. -/
def fnExactIsValidLogSpec : ChangeSpec := { name := "fnExactIsValidLog", fn := fun _ => fun
  | [d] => { results := [.lit (.bool true)], args := [d] }
  | _ => none }
def fnExactIsValidLogRow : OpenClaim := { program := "ytiedhibpaooldaa", sum := "ca7e50efb74107ba4ece05046dd608d89537b1d114773e908bc0fac451fe7045", func := "loop.example/g00510/laws.FnExactIsValidLog", spec := "fnExactIsValidLog", recurses := true, loops := true, apart := false }
def FnExactIsValidLogSaid : Prop := fnExactIsValidLogRow.holds Try.pinned (OpenSpec.ofChange fnExactIsValidLogSpec)

/-- ITS FALSE NEIGHBOUR: 'it returns false'. Refute it at one input. -/
def fnExactIsValidLogWrong : ChangeSpec := { name := "fnExactIsValidLog", fn := fun _ => fun
  | [d] => { results := [.lit (.bool false)], args := [d] }
  | _ => none }
def FnExactIsValidLogWrongFalsely : Prop := fnExactIsValidLogRow.holds Try.pinned (OpenSpec.ofChange fnExactIsValidLogWrong)

/-- 'laws.FnExactNewReplica': WHATEVER THE INPUT: true; the input reads as it did. -/
def fnExactNewReplicaSpec : ChangeSpec := { name := "fnExactNewReplica", fn := fun _ => fun
  | [d] => { results := [.lit (.bool true)], args := [d] }
  | _ => none }
def fnExactNewReplicaRow : OpenClaim := { program := "ytiedhibpaooldaa", sum := "ca7e50efb74107ba4ece05046dd608d89537b1d114773e908bc0fac451fe7045", func := "loop.example/g00510/laws.FnExactNewReplica", spec := "fnExactNewReplica", recurses := true, apart := false }
def FnExactNewReplicaSaid : Prop := fnExactNewReplicaRow.holds Try.pinned (OpenSpec.ofChange fnExactNewReplicaSpec)

/-- ITS FALSE NEIGHBOUR: 'it returns false'. Refute it at one input. -/
def fnExactNewReplicaWrong : ChangeSpec := { name := "fnExactNewReplica", fn := fun _ => fun
  | [d] => { results := [.lit (.bool false)], args := [d] }
  | _ => none }
def FnExactNewReplicaWrongFalsely : Prop := fnExactNewReplicaRow.holds Try.pinned (OpenSpec.ofChange fnExactNewReplicaWrong)

/-- 'laws.FnExactEqualOp': WHATEVER THE INPUT: true; the input reads as it did. -/
def fnExactEqualOpSpec : ChangeSpec := { name := "fnExactEqualOp", fn := fun _ => fun
  | [d1, d2] => { results := [.lit (.bool true)], args := [d1, d2] }
  | _ => none }
def fnExactEqualOpRow : OpenClaim := { program := "ytiedhibpaooldaa", sum := "ca7e50efb74107ba4ece05046dd608d89537b1d114773e908bc0fac451fe7045", func := "loop.example/g00510/laws.FnExactEqualOp", spec := "fnExactEqualOp", recurses := true, loops := true, apart := false }
def FnExactEqualOpSaid : Prop := fnExactEqualOpRow.holds Try.pinned (OpenSpec.ofChange fnExactEqualOpSpec)

/-- ITS FALSE NEIGHBOUR: 'it returns false'. Refute it at one input. -/
def fnExactEqualOpWrong : ChangeSpec := { name := "fnExactEqualOp", fn := fun _ => fun
  | [d1, d2] => { results := [.lit (.bool false)], args := [d1, d2] }
  | _ => none }
def FnExactEqualOpWrongFalsely : Prop := fnExactEqualOpRow.holds Try.pinned (OpenSpec.ofChange fnExactEqualOpWrong)

/-- 'laws.FnExactIsValidReplica': WHATEVER THE INPUT: true; the input reads as it did. -/
def fnExactIsValidReplicaSpec : ChangeSpec := { name := "fnExactIsValidReplica", fn := fun _ => fun
  | [d] => { results := [.lit (.bool true)], args := [d] }
  | _ => none }
def fnExactIsValidReplicaRow : OpenClaim := { program := "ytiedhibpaooldaa", sum := "ca7e50efb74107ba4ece05046dd608d89537b1d114773e908bc0fac451fe7045", func := "loop.example/g00510/laws.FnExactIsValidReplica", spec := "fnExactIsValidReplica", recurses := true, loops := true, apart := false }
def FnExactIsValidReplicaSaid : Prop := fnExactIsValidReplicaRow.holds Try.pinned (OpenSpec.ofChange fnExactIsValidReplicaSpec)

/-- ITS FALSE NEIGHBOUR: 'it returns false'. Refute it at one input. -/
def fnExactIsValidReplicaWrong : ChangeSpec := { name := "fnExactIsValidReplica", fn := fun _ => fun
  | [d] => { results := [.lit (.bool false)], args := [d] }
  | _ => none }
def FnExactIsValidReplicaWrongFalsely : Prop := fnExactIsValidReplicaRow.holds Try.pinned (OpenSpec.ofChange fnExactIsValidReplicaWrong)

/-- 'laws.FnExactSeenBy': WHATEVER THE INPUT: true; the input reads as it did. -/
def fnExactSeenBySpec : ChangeSpec := { name := "fnExactSeenBy", fn := fun _ => fun
  | [d] => { results := [.lit (.bool true)], args := [d] }
  | _ => none }
def fnExactSeenByRow : OpenClaim := { program := "ytiedhibpaooldaa", sum := "ca7e50efb74107ba4ece05046dd608d89537b1d114773e908bc0fac451fe7045", func := "loop.example/g00510/laws.FnExactSeenBy", spec := "fnExactSeenBy", recurses := true, loops := true, apart := false }
def FnExactSeenBySaid : Prop := fnExactSeenByRow.holds Try.pinned (OpenSpec.ofChange fnExactSeenBySpec)

/-- ITS FALSE NEIGHBOUR: 'it returns false'. Refute it at one input. -/
def fnExactSeenByWrong : ChangeSpec := { name := "fnExactSeenBy", fn := fun _ => fun
  | [d] => { results := [.lit (.bool false)], args := [d] }
  | _ => none }
def FnExactSeenByWrongFalsely : Prop := fnExactSeenByRow.holds Try.pinned (OpenSpec.ofChange fnExactSeenByWrong)

/-- 'laws.FnExactEqualDocument': WHATEVER THE INPUT: true; the input reads as it did. -/
def fnExactEqualDocumentSpec : ChangeSpec := { name := "fnExactEqualDocument", fn := fun _ => fun
  | [d1, d2] => { results := [.lit (.bool true)], args := [d1, d2] }
  | _ => none }
def fnExactEqualDocumentRow : OpenClaim := { program := "ytiedhibpaooldaa", sum := "ca7e50efb74107ba4ece05046dd608d89537b1d114773e908bc0fac451fe7045", func := "loop.example/g00510/laws.FnExactEqualDocument", spec := "fnExactEqualDocument", recurses := true, loops := true, apart := false }
def FnExactEqualDocumentSaid : Prop := fnExactEqualDocumentRow.holds Try.pinned (OpenSpec.ofChange fnExactEqualDocumentSpec)

/-- ITS FALSE NEIGHBOUR: 'it returns false'. Refute it at one input. -/
def fnExactEqualDocumentWrong : ChangeSpec := { name := "fnExactEqualDocument", fn := fun _ => fun
  | [d1, d2] => { results := [.lit (.bool false)], args := [d1, d2] }
  | _ => none }
def FnExactEqualDocumentWrongFalsely : Prop := fnExactEqualDocumentRow.holds Try.pinned (OpenSpec.ofChange fnExactEqualDocumentWrong)

/- THE SECOND FORM. 'bulk': how many values and letters a reading holds, each counted each time it is reached (what is shared counts as often as it is met; a slice's spare places count too). A statement '..UptoSaid' is the law's where the arguments, and the package variables that the reading takes, are together of bulk at most 1048576: NARROWER than '..Said'. Prove '..Said' where nothing that the law and all that it calls make is longer than what came in: it says more and counts as full. Else prove '..UptoSaid'. A law counts once. -/
mutual
def uptoBulk {H : Type} : DataW H → Nat
  | .lit (.string bytes) => bytes.length + 1
  | .lit _ => 1
  | .nil => 1
  | .ptr d => uptoBulk d + 1
  | .slice elems spare => uptoBulkAll elems + uptoBulkAll spare + 1
  | .agg parts => uptoBulkAll parts + 1
  | .iface _ d => uptoBulk d + 1
  | .map entries => uptoBulkEntries entries + 1
  | .held _ => 1
def uptoBulkAll {H : Type} : List (DataW H) → Nat
  | [] => 0
  | d :: r => uptoBulk d + uptoBulkAll r
def uptoBulkEntries {H : Type} : List (Lit × DataW H) → Nat
  | [] => 0
  | x :: r => uptoBulkEntry x + uptoBulkEntries r
def uptoBulkEntry {H : Type} : Lit × DataW H → Nat
  | (.string bytes, d) => bytes.length + uptoBulk d + 1
  | (_, d) => uptoBulk d + 1
 end
def uptoSmall : (H : Type) → List (DataW H) → Bool := fun _ ds => decide (uptoBulkAll ds ≤ 1048576)
def OpenSpec.upto (s : _root_.Go.ChangeSpec) : _root_.Go.OpenSpec := { _root_.Go.OpenSpec.ofChange s with cond := some uptoSmall }

/-- 'laws.FnExactChangedVersions', WHERE WHAT IT READS IS OF BULK AT MOST 1048576: true; the input reads as it did. -/
def fnExactChangedVersionsUptoRow : OpenClaim := { program := "ytiedhibpaooldaa", sum := "ca7e50efb74107ba4ece05046dd608d89537b1d114773e908bc0fac451fe7045", func := "loop.example/g00510/laws.FnExactChangedVersions", spec := "fnExactChangedVersions", apart := false, narrowed := true }
def FnExactChangedVersionsUptoSaid : Prop := fnExactChangedVersionsUptoRow.holds Try.pinned (OpenSpec.upto fnExactChangedVersionsSpec)

/-- 'laws.FnExactNewHistory', WHERE WHAT IT READS IS OF BULK AT MOST 1048576: true; the input reads as it did. -/
def fnExactNewHistoryUptoRow : OpenClaim := { program := "ytiedhibpaooldaa", sum := "ca7e50efb74107ba4ece05046dd608d89537b1d114773e908bc0fac451fe7045", func := "loop.example/g00510/laws.FnExactNewHistory", spec := "fnExactNewHistory", apart := false, narrowed := true }
def FnExactNewHistoryUptoSaid : Prop := fnExactNewHistoryUptoRow.holds Try.pinned (OpenSpec.upto fnExactNewHistorySpec)

/-- 'laws.FnExactIsNoChange', WHERE WHAT IT READS IS OF BULK AT MOST 1048576: true; the input reads as it did. -/
def fnExactIsNoChangeUptoRow : OpenClaim := { program := "ytiedhibpaooldaa", sum := "ca7e50efb74107ba4ece05046dd608d89537b1d114773e908bc0fac451fe7045", func := "loop.example/g00510/laws.FnExactIsNoChange", spec := "fnExactIsNoChange", apart := false, narrowed := true }
def FnExactIsNoChangeUptoSaid : Prop := fnExactIsNoChangeUptoRow.holds Try.pinned (OpenSpec.upto fnExactIsNoChangeSpec)

/-- 'laws.FnExactHasSeen', WHERE WHAT IT READS IS OF BULK AT MOST 1048576: true; the input reads as it did. -/
def fnExactHasSeenUptoRow : OpenClaim := { program := "ytiedhibpaooldaa", sum := "ca7e50efb74107ba4ece05046dd608d89537b1d114773e908bc0fac451fe7045", func := "loop.example/g00510/laws.FnExactHasSeen", spec := "fnExactHasSeen", recurses := true, loops := true, apart := false, narrowed := true }
def FnExactHasSeenUptoSaid : Prop := fnExactHasSeenUptoRow.holds Try.pinned (OpenSpec.upto fnExactHasSeenSpec)

/-- 'laws.FnExactPathTo', WHERE WHAT IT READS IS OF BULK AT MOST 1048576: true; the input reads as it did. -/
def fnExactPathToUptoRow : OpenClaim := { program := "ytiedhibpaooldaa", sum := "ca7e50efb74107ba4ece05046dd608d89537b1d114773e908bc0fac451fe7045", func := "loop.example/g00510/laws.FnExactPathTo", spec := "fnExactPathTo", apart := false, narrowed := true }
def FnExactPathToUptoSaid : Prop := fnExactPathToUptoRow.holds Try.pinned (OpenSpec.upto fnExactPathToSpec)

/-- 'laws.FnExactApplyBatch', WHERE WHAT IT READS IS OF BULK AT MOST 1048576: true; the input reads as it did. -/
def fnExactApplyBatchUptoRow : OpenClaim := { program := "ytiedhibpaooldaa", sum := "ca7e50efb74107ba4ece05046dd608d89537b1d114773e908bc0fac451fe7045", func := "loop.example/g00510/laws.FnExactApplyBatch", spec := "fnExactApplyBatch", apart := false, narrowed := true }
def FnExactApplyBatchUptoSaid : Prop := fnExactApplyBatchUptoRow.holds Try.pinned (OpenSpec.upto fnExactApplyBatchSpec)

/-- 'laws.FnExactIsValidLog', WHERE WHAT IT READS IS OF BULK AT MOST 1048576: true; the input reads as it did. -/
def fnExactIsValidLogUptoRow : OpenClaim := { program := "ytiedhibpaooldaa", sum := "ca7e50efb74107ba4ece05046dd608d89537b1d114773e908bc0fac451fe7045", func := "loop.example/g00510/laws.FnExactIsValidLog", spec := "fnExactIsValidLog", recurses := true, loops := true, apart := false, narrowed := true }
def FnExactIsValidLogUptoSaid : Prop := fnExactIsValidLogUptoRow.holds Try.pinned (OpenSpec.upto fnExactIsValidLogSpec)

/-- 'laws.FnExactNewReplica', WHERE WHAT IT READS IS OF BULK AT MOST 1048576: true; the input reads as it did. -/
def fnExactNewReplicaUptoRow : OpenClaim := { program := "ytiedhibpaooldaa", sum := "ca7e50efb74107ba4ece05046dd608d89537b1d114773e908bc0fac451fe7045", func := "loop.example/g00510/laws.FnExactNewReplica", spec := "fnExactNewReplica", recurses := true, apart := false, narrowed := true }
def FnExactNewReplicaUptoSaid : Prop := fnExactNewReplicaUptoRow.holds Try.pinned (OpenSpec.upto fnExactNewReplicaSpec)

/-- 'laws.FnExactEqualOp', WHERE WHAT IT READS IS OF BULK AT MOST 1048576: true; the input reads as it did. -/
def fnExactEqualOpUptoRow : OpenClaim := { program := "ytiedhibpaooldaa", sum := "ca7e50efb74107ba4ece05046dd608d89537b1d114773e908bc0fac451fe7045", func := "loop.example/g00510/laws.FnExactEqualOp", spec := "fnExactEqualOp", recurses := true, loops := true, apart := false, narrowed := true }
def FnExactEqualOpUptoSaid : Prop := fnExactEqualOpUptoRow.holds Try.pinned (OpenSpec.upto fnExactEqualOpSpec)

/-- 'laws.FnExactIsValidReplica', WHERE WHAT IT READS IS OF BULK AT MOST 1048576: true; the input reads as it did. -/
def fnExactIsValidReplicaUptoRow : OpenClaim := { program := "ytiedhibpaooldaa", sum := "ca7e50efb74107ba4ece05046dd608d89537b1d114773e908bc0fac451fe7045", func := "loop.example/g00510/laws.FnExactIsValidReplica", spec := "fnExactIsValidReplica", recurses := true, loops := true, apart := false, narrowed := true }
def FnExactIsValidReplicaUptoSaid : Prop := fnExactIsValidReplicaUptoRow.holds Try.pinned (OpenSpec.upto fnExactIsValidReplicaSpec)

/-- 'laws.FnExactSeenBy', WHERE WHAT IT READS IS OF BULK AT MOST 1048576: true; the input reads as it did. -/
def fnExactSeenByUptoRow : OpenClaim := { program := "ytiedhibpaooldaa", sum := "ca7e50efb74107ba4ece05046dd608d89537b1d114773e908bc0fac451fe7045", func := "loop.example/g00510/laws.FnExactSeenBy", spec := "fnExactSeenBy", recurses := true, loops := true, apart := false, narrowed := true }
def FnExactSeenByUptoSaid : Prop := fnExactSeenByUptoRow.holds Try.pinned (OpenSpec.upto fnExactSeenBySpec)

/-- 'laws.FnExactEqualDocument', WHERE WHAT IT READS IS OF BULK AT MOST 1048576: true; the input reads as it did. -/
def fnExactEqualDocumentUptoRow : OpenClaim := { program := "ytiedhibpaooldaa", sum := "ca7e50efb74107ba4ece05046dd608d89537b1d114773e908bc0fac451fe7045", func := "loop.example/g00510/laws.FnExactEqualDocument", spec := "fnExactEqualDocument", recurses := true, loops := true, apart := false, narrowed := true }
def FnExactEqualDocumentUptoSaid : Prop := fnExactEqualDocumentUptoRow.holds Try.pinned (OpenSpec.upto fnExactEqualDocumentSpec)

end Rows
end Go.Proofs.Ytiedhibpaooldaa
