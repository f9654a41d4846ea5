/-
  NARROWER THAN 'FOR EVERY INPUT', by the rows' own cells (each row's printed sentence says how): FnExactOpBefore: loops · FnExactStampVersion: loops · FnExactIsValidOp: loops · FnExactCountBy: loops · FnExactLastTime: loops.
  DERIVED. THE GIVEN ROWS OF THIS SEAT. 12 by the template 'for every input the law returns true; each argument reads behind the call as it read before'; 0 by the template 'total and deterministic' (their statements: YtdjpggeakgdmmaaTotals.lean).
  GIVEN WITH THE SEED: the statements are not yours to turn. If you find one false, say at which input.
  Laid BY PROGRAM, IN A SANDBOX (cutbox-rows.mjs): the forced cells as the released guide's own fill.sh prints them over the translation 8dbfd55446e5b969… (all of the seat's roots in one cut). By AI agents, Wed Nov 11 2026. No macro, syntax, notation, axiom, sorry.
-/
import Derived.Test.YtdjpggeakgdmmaaChecked
import GoSem.Claim
import GoSem.ClaimJoined
import GoSem.ClaimMapViews
import Derived.JoinedTies
import Derived.KernelRfl
namespace Go.Proofs.Ytdjpggeakgdmmaa
/- THE CELL 'sum', in the pinned program and in every row, IS THE sha256 OF THE DUMP (.gsa) THAT YtdjpggeakgdmmaaProg.lean LOADS. Nothing in Lean hashes anything: it is a label: what it is worth is what the hold of that sum in a sandbox is worth. -/
noncomputable def Try.pinned : Pinned := { name := "ytdjpggeakgdmmaa", sum := "8dbfd55446e5b969378a0c7d8cacda5e6189205986cab578439928480023d749", checked := Try.checked }
namespace Rows
def none {H : Type} : Left H := { results := [], args := [] }

/-- 'laws.FnExactChangedVersions': WHATEVER THE INPUT: true; the input reads as it did. -/
def fnExactChangedVersionsSpec : ChangeSpec := { name := "fnExactChangedVersions", fn := fun _ => fun
  | [d1, d2] => { results := [.lit (.bool true)], args := [d1, d2] }
  | _ => none }
def fnExactChangedVersionsRow : OpenClaim := { program := "ytdjpggeakgdmmaa", sum := "8dbfd55446e5b969378a0c7d8cacda5e6189205986cab578439928480023d749", func := "loop.example/g00510/laws.FnExactChangedVersions", spec := "fnExactChangedVersions", apart := false }
def FnExactChangedVersionsSaid : Prop := fnExactChangedVersionsRow.holds Try.pinned (OpenSpec.ofChange fnExactChangedVersionsSpec)

/-- ITS FALSE NEIGHBOUR: 'it returns false'. Refute it at one input. -/
def fnExactChangedVersionsWrong : ChangeSpec := { name := "fnExactChangedVersions", fn := fun _ => fun
  | [d1, d2] => { results := [.lit (.bool false)], args := [d1, d2] }
  | _ => none }
def FnExactChangedVersionsWrongFalsely : Prop := fnExactChangedVersionsRow.holds Try.pinned (OpenSpec.ofChange fnExactChangedVersionsWrong)

/-- 'laws.FnTapes': WHATEVER THE INPUT: true; the input reads as it did. -/
def fnTapesSpec : ChangeSpec := { name := "fnTapes", fn := fun _ => fun
  | [d] => { results := [.lit (.bool true)], args := [d] }
  | _ => none }
def fnTapesRow : OpenClaim := { program := "ytdjpggeakgdmmaa", sum := "8dbfd55446e5b969378a0c7d8cacda5e6189205986cab578439928480023d749", func := "loop.example/g00510/laws.FnTapes", spec := "fnTapes", recurses := true, apart := false }
def FnTapesSaid : Prop := fnTapesRow.holds Try.pinned (OpenSpec.ofChange fnTapesSpec)

/-- ITS FALSE NEIGHBOUR: 'it returns false'. Refute it at one input. -/
def fnTapesWrong : ChangeSpec := { name := "fnTapes", fn := fun _ => fun
  | [d] => { results := [.lit (.bool false)], args := [d] }
  | _ => none }
def FnTapesWrongFalsely : Prop := fnTapesRow.holds Try.pinned (OpenSpec.ofChange fnTapesWrong)

/-- 'laws.FnCopied': WHATEVER THE INPUT: true; the input reads as it did. -/
def fnCopiedSpec : ChangeSpec := { name := "fnCopied", fn := fun _ => fun
  | [d] => { results := [.lit (.bool true)], args := [d] }
  | _ => none }
def fnCopiedRow : OpenClaim := { program := "ytdjpggeakgdmmaa", sum := "8dbfd55446e5b969378a0c7d8cacda5e6189205986cab578439928480023d749", func := "loop.example/g00510/laws.FnCopied", spec := "fnCopied", recurses := true, apart := false }
def FnCopiedSaid : Prop := fnCopiedRow.holds Try.pinned (OpenSpec.ofChange fnCopiedSpec)

/-- ITS FALSE NEIGHBOUR: 'it returns false'. Refute it at one input. -/
def fnCopiedWrong : ChangeSpec := { name := "fnCopied", fn := fun _ => fun
  | [d] => { results := [.lit (.bool false)], args := [d] }
  | _ => none }
def FnCopiedWrongFalsely : Prop := fnCopiedRow.holds Try.pinned (OpenSpec.ofChange fnCopiedWrong)

/-- 'laws.FnTapesKept': WHATEVER THE INPUT: true; the input reads as it did. -/
def fnTapesKeptSpec : ChangeSpec := { name := "fnTapesKept", fn := fun _ => fun
  | [d] => { results := [.lit (.bool true)], args := [d] }
  | _ => none }
def fnTapesKeptRow : OpenClaim := { program := "ytdjpggeakgdmmaa", sum := "8dbfd55446e5b969378a0c7d8cacda5e6189205986cab578439928480023d749", func := "loop.example/g00510/laws.FnTapesKept", spec := "fnTapesKept", recurses := true, apart := false }
def FnTapesKeptSaid : Prop := fnTapesKeptRow.holds Try.pinned (OpenSpec.ofChange fnTapesKeptSpec)

/-- ITS FALSE NEIGHBOUR: 'it returns false'. Refute it at one input. -/
def fnTapesKeptWrong : ChangeSpec := { name := "fnTapesKept", fn := fun _ => fun
  | [d] => { results := [.lit (.bool false)], args := [d] }
  | _ => none }
def FnTapesKeptWrongFalsely : Prop := fnTapesKeptRow.holds Try.pinned (OpenSpec.ofChange fnTapesKeptWrong)

/-- 'laws.FnExactIsValidHistory': WHATEVER THE INPUT: true; the input reads as it did. -/
def fnExactIsValidHistorySpec : ChangeSpec := { name := "fnExactIsValidHistory", fn := fun _ => fun
  | [d] => { results := [.lit (.bool true)], args := [d] }
  | _ => none }
def fnExactIsValidHistoryRow : OpenClaim := { program := "ytdjpggeakgdmmaa", sum := "8dbfd55446e5b969378a0c7d8cacda5e6189205986cab578439928480023d749", func := "loop.example/g00510/laws.FnExactIsValidHistory", spec := "fnExactIsValidHistory", apart := false }
def FnExactIsValidHistorySaid : Prop := fnExactIsValidHistoryRow.holds Try.pinned (OpenSpec.ofChange fnExactIsValidHistorySpec)

/-- ITS FALSE NEIGHBOUR: 'it returns false'. Refute it at one input. -/
def fnExactIsValidHistoryWrong : ChangeSpec := { name := "fnExactIsValidHistory", fn := fun _ => fun
  | [d] => { results := [.lit (.bool false)], args := [d] }
  | _ => none }
def FnExactIsValidHistoryWrongFalsely : Prop := fnExactIsValidHistoryRow.holds Try.pinned (OpenSpec.ofChange fnExactIsValidHistoryWrong)

/-- 'laws.FnExactOpBefore': WHATEVER THE INPUT: true; the input reads as it did. -/
def fnExactOpBeforeSpec : ChangeSpec := { name := "fnExactOpBefore", fn := fun _ => fun
  | [d1, d2] => { results := [.lit (.bool true)], args := [d1, d2] }
  | _ => none }
def fnExactOpBeforeRow : OpenClaim := { program := "ytdjpggeakgdmmaa", sum := "8dbfd55446e5b969378a0c7d8cacda5e6189205986cab578439928480023d749", func := "loop.example/g00510/laws.FnExactOpBefore", spec := "fnExactOpBefore", recurses := true, loops := true, apart := false }
def FnExactOpBeforeSaid : Prop := fnExactOpBeforeRow.holds Try.pinned (OpenSpec.ofChange fnExactOpBeforeSpec)

/-- ITS FALSE NEIGHBOUR: 'it returns false'. Refute it at one input. -/
def fnExactOpBeforeWrong : ChangeSpec := { name := "fnExactOpBefore", fn := fun _ => fun
  | [d1, d2] => { results := [.lit (.bool false)], args := [d1, d2] }
  | _ => none }
def FnExactOpBeforeWrongFalsely : Prop := fnExactOpBeforeRow.holds Try.pinned (OpenSpec.ofChange fnExactOpBeforeWrong)

/-- 'laws.FnExactStampVersion': WHATEVER THE INPUT: true; the input reads as it did. -/
def fnExactStampVersionSpec : ChangeSpec := { name := "fnExactStampVersion", fn := fun _ => fun
  | [d] => { results := [.lit (.bool true)], args := [d] }
  | _ => none }
def fnExactStampVersionRow : OpenClaim := { program := "ytdjpggeakgdmmaa", sum := "8dbfd55446e5b969378a0c7d8cacda5e6189205986cab578439928480023d749", func := "loop.example/g00510/laws.FnExactStampVersion", spec := "fnExactStampVersion", recurses := true, loops := true, apart := false }
def FnExactStampVersionSaid : Prop := fnExactStampVersionRow.holds Try.pinned (OpenSpec.ofChange fnExactStampVersionSpec)

/-- ITS FALSE NEIGHBOUR: 'it returns false'. Refute it at one input. -/
def fnExactStampVersionWrong : ChangeSpec := { name := "fnExactStampVersion", fn := fun _ => fun
  | [d] => { results := [.lit (.bool false)], args := [d] }
  | _ => none }
def FnExactStampVersionWrongFalsely : Prop := fnExactStampVersionRow.holds Try.pinned (OpenSpec.ofChange fnExactStampVersionWrong)

/-- 'laws.FnExactNewHistory': WHATEVER THE INPUT: true; the input reads as it did. -/
def fnExactNewHistorySpec : ChangeSpec := { name := "fnExactNewHistory", fn := fun _ => fun
  | [d] => { results := [.lit (.bool true)], args := [d] }
  | _ => none }
def fnExactNewHistoryRow : OpenClaim := { program := "ytdjpggeakgdmmaa", sum := "8dbfd55446e5b969378a0c7d8cacda5e6189205986cab578439928480023d749", func := "loop.example/g00510/laws.FnExactNewHistory", spec := "fnExactNewHistory", apart := false }
def FnExactNewHistorySaid : Prop := fnExactNewHistoryRow.holds Try.pinned (OpenSpec.ofChange fnExactNewHistorySpec)

/-- ITS FALSE NEIGHBOUR: 'it returns false'. Refute it at one input. -/
def fnExactNewHistoryWrong : ChangeSpec := { name := "fnExactNewHistory", fn := fun _ => fun
  | [d] => { results := [.lit (.bool false)], args := [d] }
  | _ => none }
def FnExactNewHistoryWrongFalsely : Prop := fnExactNewHistoryRow.holds Try.pinned (OpenSpec.ofChange fnExactNewHistoryWrong)

/-- 'laws.FnExactIsValidOp': WHATEVER THE INPUT: true; the input reads as it did. -/
def fnExactIsValidOpSpec : ChangeSpec := { name := "fnExactIsValidOp", fn := fun _ => fun
  | [d] => { results := [.lit (.bool true)], args := [d] }
  | _ => none }
def fnExactIsValidOpRow : OpenClaim := { program := "ytdjpggeakgdmmaa", sum := "8dbfd55446e5b969378a0c7d8cacda5e6189205986cab578439928480023d749", func := "loop.example/g00510/laws.FnExactIsValidOp", spec := "fnExactIsValidOp", recurses := true, loops := true, apart := false }
def FnExactIsValidOpSaid : Prop := fnExactIsValidOpRow.holds Try.pinned (OpenSpec.ofChange fnExactIsValidOpSpec)

/-- ITS FALSE NEIGHBOUR: 'it returns false'. Refute it at one input. -/
def fnExactIsValidOpWrong : ChangeSpec := { name := "fnExactIsValidOp", fn := fun _ => fun
  | [d] => { results := [.lit (.bool false)], args := [d] }
  | _ => none }
def FnExactIsValidOpWrongFalsely : Prop := fnExactIsValidOpRow.holds Try.pinned (OpenSpec.ofChange fnExactIsValidOpWrong)

/-- 'laws.FnExactCountBy': WHATEVER THE INPUT: true; the input reads as it did. -/
def fnExactCountBySpec : ChangeSpec := { name := "fnExactCountBy", fn := fun _ => fun
  | [d1, d2] => { results := [.lit (.bool true)], args := [d1, d2] }
  | _ => none }
def fnExactCountByRow : OpenClaim := { program := "ytdjpggeakgdmmaa", sum := "8dbfd55446e5b969378a0c7d8cacda5e6189205986cab578439928480023d749", func := "loop.example/g00510/laws.FnExactCountBy", spec := "fnExactCountBy", recurses := true, loops := true, apart := false }
def FnExactCountBySaid : Prop := fnExactCountByRow.holds Try.pinned (OpenSpec.ofChange fnExactCountBySpec)

/-- ITS FALSE NEIGHBOUR: 'it returns false'. Refute it at one input. -/
def fnExactCountByWrong : ChangeSpec := { name := "fnExactCountBy", fn := fun _ => fun
  | [d1, d2] => { results := [.lit (.bool false)], args := [d1, d2] }
  | _ => none }
def FnExactCountByWrongFalsely : Prop := fnExactCountByRow.holds Try.pinned (OpenSpec.ofChange fnExactCountByWrong)

/-- 'laws.FnExactLastTime': WHATEVER THE INPUT: true; the input reads as it did. -/
def fnExactLastTimeSpec : ChangeSpec := { name := "fnExactLastTime", fn := fun _ => fun
  | [d] => { results := [.lit (.bool true)], args := [d] }
  | _ => none }
def fnExactLastTimeRow : OpenClaim := { program := "ytdjpggeakgdmmaa", sum := "8dbfd55446e5b969378a0c7d8cacda5e6189205986cab578439928480023d749", func := "loop.example/g00510/laws.FnExactLastTime", spec := "fnExactLastTime", recurses := true, loops := true, apart := false }
def FnExactLastTimeSaid : Prop := fnExactLastTimeRow.holds Try.pinned (OpenSpec.ofChange fnExactLastTimeSpec)

/-- ITS FALSE NEIGHBOUR: 'it returns false'. Refute it at one input. -/
def fnExactLastTimeWrong : ChangeSpec := { name := "fnExactLastTime", fn := fun _ => fun
  | [d] => { results := [.lit (.bool false)], args := [d] }
  | _ => none }
def FnExactLastTimeWrongFalsely : Prop := fnExactLastTimeRow.holds Try.pinned (OpenSpec.ofChange fnExactLastTimeWrong)

/-- 'laws.FnExactIsNoChange': WHATEVER THE INPUT: true; the input reads as it did. -/
def fnExactIsNoChangeSpec : ChangeSpec := { name := "fnExactIsNoChange", fn := fun _ => fun
  | [d1, d2] => { results := [.lit (.bool true)], args := [d1, d2] }
  | _ => none }
def fnExactIsNoChangeRow : OpenClaim := { program := "ytdjpggeakgdmmaa", sum := "8dbfd55446e5b969378a0c7d8cacda5e6189205986cab578439928480023d749", func := "loop.example/g00510/laws.FnExactIsNoChange", spec := "fnExactIsNoChange", apart := false }
def FnExactIsNoChangeSaid : Prop := fnExactIsNoChangeRow.holds Try.pinned (OpenSpec.ofChange fnExactIsNoChangeSpec)

/-- ITS FALSE NEIGHBOUR: 'it returns false'. Refute it at one input. -/
def fnExactIsNoChangeWrong : ChangeSpec := { name := "fnExactIsNoChange", fn := fun _ => fun
  | [d1, d2] => { results := [.lit (.bool false)], args := [d1, d2] }
  | _ => none }
def FnExactIsNoChangeWrongFalsely : Prop := fnExactIsNoChangeRow.holds Try.pinned (OpenSpec.ofChange fnExactIsNoChangeWrong)

/- THE SECOND FORM. 'bulk': how many values and letters a reading holds, each counted each time it is reached (what is shared counts as often as it is met; a slice's spare places count too). A statement '..UptoSaid' is the law's where the arguments, and the package variables that the reading takes, are together of bulk at most 1048576: NARROWER than '..Said'. Prove '..Said' where nothing that the law and all that it calls make is longer than what came in: it says more and counts as full. Else prove '..UptoSaid'. A law counts once. -/
mutual
def uptoBulk {H : Type} : DataW H → Nat
  | .lit (.string bytes) => bytes.length + 1
  | .lit _ => 1
  | .nil => 1
  | .ptr d => uptoBulk d + 1
  | .slice elems spare => uptoBulkAll elems + uptoBulkAll spare + 1
  | .agg parts => uptoBulkAll parts + 1
  | .iface _ d => uptoBulk d + 1
  | .map entries => uptoBulkEntries entries + 1
  | .held _ => 1
def uptoBulkAll {H : Type} : List (DataW H) → Nat
  | [] => 0
  | d :: r => uptoBulk d + uptoBulkAll r
def uptoBulkEntries {H : Type} : List (Lit × DataW H) → Nat
  | [] => 0
  | x :: r => uptoBulkEntry x + uptoBulkEntries r
def uptoBulkEntry {H : Type} : Lit × DataW H → Nat
  | (.string bytes, d) => bytes.length + uptoBulk d + 1
  | (_, d) => uptoBulk d + 1
 end
def uptoSmall : (H : Type) → List (DataW H) → Bool := fun _ ds => decide (uptoBulkAll ds ≤ 1048576)
def OpenSpec.upto (s : _root_.Go.ChangeSpec) : _root_.Go.OpenSpec := { _root_.Go.OpenSpec.ofChange s with cond := some uptoSmall }

/-- 'laws.FnExactChangedVersions', WHERE WHAT IT READS IS OF BULK AT MOST 1048576: true; the input reads as it did. -/
def fnExactChangedVersionsUptoRow : OpenClaim := { program := "ytdjpggeakgdmmaa", sum := "8dbfd55446e5b969378a0c7d8cacda5e6189205986cab578439928480023d749", func := "loop.example/g00510/laws.FnExactChangedVersions", spec := "fnExactChangedVersions", apart := false, narrowed := true }
def FnExactChangedVersionsUptoSaid : Prop := fnExactChangedVersionsUptoRow.holds Try.pinned (OpenSpec.upto fnExactChangedVersionsSpec)

/-- 'laws.FnTapes', WHERE WHAT IT READS IS OF BULK AT MOST 1048576: true; the input reads as it did. -/
def fnTapesUptoRow : OpenClaim := { program := "ytdjpggeakgdmmaa", sum := "8dbfd55446e5b969378a0c7d8cacda5e6189205986cab578439928480023d749", func := "loop.example/g00510/laws.FnTapes", spec := "fnTapes", recurses := true, apart := false, narrowed := true }
def FnTapesUptoSaid : Prop := fnTapesUptoRow.holds Try.pinned (OpenSpec.upto fnTapesSpec)

/-- 'laws.FnCopied', WHERE WHAT IT READS IS OF BULK AT MOST 1048576: true; the input reads as it did. -/
def fnCopiedUptoRow : OpenClaim := { program := "ytdjpggeakgdmmaa", sum := "8dbfd55446e5b969378a0c7d8cacda5e6189205986cab578439928480023d749", func := "loop.example/g00510/laws.FnCopied", spec := "fnCopied", recurses := true, apart := false, narrowed := true }
def FnCopiedUptoSaid : Prop := fnCopiedUptoRow.holds Try.pinned (OpenSpec.upto fnCopiedSpec)

/-- 'laws.FnTapesKept', WHERE WHAT IT READS IS OF BULK AT MOST 1048576: true; the input reads as it did. -/
def fnTapesKeptUptoRow : OpenClaim := { program := "ytdjpggeakgdmmaa", sum := "8dbfd55446e5b969378a0c7d8cacda5e6189205986cab578439928480023d749", func := "loop.example/g00510/laws.FnTapesKept", spec := "fnTapesKept", recurses := true, apart := false, narrowed := true }
def FnTapesKeptUptoSaid : Prop := fnTapesKeptUptoRow.holds Try.pinned (OpenSpec.upto fnTapesKeptSpec)

/-- 'laws.FnExactIsValidHistory', WHERE WHAT IT READS IS OF BULK AT MOST 1048576: true; the input reads as it did. -/
def fnExactIsValidHistoryUptoRow : OpenClaim := { program := "ytdjpggeakgdmmaa", sum := "8dbfd55446e5b969378a0c7d8cacda5e6189205986cab578439928480023d749", func := "loop.example/g00510/laws.FnExactIsValidHistory", spec := "fnExactIsValidHistory", apart := false, narrowed := true }
def FnExactIsValidHistoryUptoSaid : Prop := fnExactIsValidHistoryUptoRow.holds Try.pinned (OpenSpec.upto fnExactIsValidHistorySpec)

/-- 'laws.FnExactOpBefore', WHERE WHAT IT READS IS OF BULK AT MOST 1048576: true; the input reads as it did. -/
def fnExactOpBeforeUptoRow : OpenClaim := { program := "ytdjpggeakgdmmaa", sum := "8dbfd55446e5b969378a0c7d8cacda5e6189205986cab578439928480023d749", func := "loop.example/g00510/laws.FnExactOpBefore", spec := "fnExactOpBefore", recurses := true, loops := true, apart := false, narrowed := true }
def FnExactOpBeforeUptoSaid : Prop := fnExactOpBeforeUptoRow.holds Try.pinned (OpenSpec.upto fnExactOpBeforeSpec)

/-- 'laws.FnExactStampVersion', WHERE WHAT IT READS IS OF BULK AT MOST 1048576: true; the input reads as it did. -/
def fnExactStampVersionUptoRow : OpenClaim := { program := "ytdjpggeakgdmmaa", sum := "8dbfd55446e5b969378a0c7d8cacda5e6189205986cab578439928480023d749", func := "loop.example/g00510/laws.FnExactStampVersion", spec := "fnExactStampVersion", recurses := true, loops := true, apart := false, narrowed := true }
def FnExactStampVersionUptoSaid : Prop := fnExactStampVersionUptoRow.holds Try.pinned (OpenSpec.upto fnExactStampVersionSpec)

/-- 'laws.FnExactNewHistory', WHERE WHAT IT READS IS OF BULK AT MOST 1048576: true; the input reads as it did. -/
def fnExactNewHistoryUptoRow : OpenClaim := { program := "ytdjpggeakgdmmaa", sum := "8dbfd55446e5b969378a0c7d8cacda5e6189205986cab578439928480023d749", func := "loop.example/g00510/laws.FnExactNewHistory", spec := "fnExactNewHistory", apart := false, narrowed := true }
def FnExactNewHistoryUptoSaid : Prop := fnExactNewHistoryUptoRow.holds Try.pinned (OpenSpec.upto fnExactNewHistorySpec)

/-- 'laws.FnExactIsValidOp', WHERE WHAT IT READS IS OF BULK AT MOST 1048576: true; the input reads as it did. -/
def fnExactIsValidOpUptoRow : OpenClaim := { program := "ytdjpggeakgdmmaa", sum := "8dbfd55446e5b969378a0c7d8cacda5e6189205986cab578439928480023d749", func := "loop.example/g00510/laws.FnExactIsValidOp", spec := "fnExactIsValidOp", recurses := true, loops := true, apart := false, narrowed := true }
def FnExactIsValidOpUptoSaid : Prop := fnExactIsValidOpUptoRow.holds Try.pinned (OpenSpec.upto fnExactIsValidOpSpec)

/-- 'laws.FnExactCountBy', WHERE WHAT IT READS IS OF BULK AT MOST 1048576: true; the input reads as it did. -/
def fnExactCountByUptoRow : OpenClaim := { program := "ytdjpggeakgdmmaa", sum := "8dbfd55446e5b969378a0c7d8cacda5e6189205986cab578439928480023d749", func := "loop.example/g00510/laws.FnExactCountBy", spec := "fnExactCountBy", recurses := true, loops := true, apart := false, narrowed := true }
def FnExactCountByUptoSaid : Prop := fnExactCountByUptoRow.holds Try.pinned (OpenSpec.upto fnExactCountBySpec)

/-- 'laws.FnExactLastTime', WHERE WHAT IT READS IS OF BULK AT MOST 1048576: true; the input reads as it did. -/
def fnExactLastTimeUptoRow : OpenClaim := { program := "ytdjpggeakgdmmaa", sum := "8dbfd55446e5b969378a0c7d8cacda5e6189205986cab578439928480023d749", func := "loop.example/g00510/laws.FnExactLastTime", spec := "fnExactLastTime", recurses := true, loops := true, apart := false, narrowed := true }
def FnExactLastTimeUptoSaid : Prop := fnExactLastTimeUptoRow.holds Try.pinned (OpenSpec.upto fnExactLastTimeSpec)

/-- 'laws.FnExactIsNoChange', WHERE WHAT IT READS IS OF BULK AT MOST 1048576: true; the input reads as it did. -/
def fnExactIsNoChangeUptoRow : OpenClaim := { program := "ytdjpggeakgdmmaa", sum := "8dbfd55446e5b969378a0c7d8cacda5e6189205986cab578439928480023d749", func := "loop.example/g00510/laws.FnExactIsNoChange", spec := "fnExactIsNoChange", apart := false, narrowed := true }
def FnExactIsNoChangeUptoSaid : Prop := fnExactIsNoChangeUptoRow.holds Try.pinned (OpenSpec.upto fnExactIsNoChangeSpec)

end Rows
end Go.Proofs.Ytdjpggeakgdmmaa
