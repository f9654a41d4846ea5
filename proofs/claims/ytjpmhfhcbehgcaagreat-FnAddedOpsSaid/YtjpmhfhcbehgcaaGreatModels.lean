/- What the functions compute, by gen.py. -/
import Derived.Test.YtjpmhfhcbehgcaaGreatTabs
import Derived.Test.YtjpmhfhcbehgcaaGreatSortD
namespace Go.Proofs.YtjpmhfhcbehgcaaGreat
open Go.Abs Go.Proofs
set_option linter.unusedVariables false
abbrev shT (b : Base) : Sh := ⟨true, .base b⟩
abbrev shF (b : Base) : Sh := ⟨false, .base b⟩
abbrev slT (b : Base) : Sh := ⟨true, .list (.base b)⟩
abbrev slF (b : Base) : Sh := ⟨false, .list (.base b)⟩
abbrev siz {α : Type} [SizeOf α] (x : α) : Nat := SizeOf.sizeOf x
abbrev w64 (n : Int) : Int := IntKind.i64.wrap n
abbrev w8 (n : Int) : Int := IntKind.u8.wrap n
noncomputable def big (a : List Int) : Option (Bool) :=
  some ((decide ((a.length : Int) > 1048576)))
noncomputable def bigFS : Fsp := ⟨4, [slF .u8], [shF .bool], true, false, fun x => big x⟩
noncomputable def sL1New (a : List Int) : Option (GCur) :=
  loopD (fun (x1 : (List Int) × Int × Int) =>
    bif (decide (x1.2.2 < (x1.1.length : Int))) then
      bif (decide (x1.2.2 < 4000)) then
        (idx x1.1 x1.2.2).bind fun e2 =>
        some (.inl (x1.1, w64 (((BitVec.ofInt 64 (w64 ((w64 ((w64 (x1.2.1 * 131)) + (w64 (e2)))) + 7)) &&& BitVec.ofInt 64 1073741823).toNat : Int)), w64 (x1.2.2 + 1)))
      else
        some (.inr (GCur.mk x1.1 0 x1.2.1))
    else
      some (.inr (GCur.mk x1.1 0 x1.2.1))
  ) (a, w64 (26583 + (a.length : Int)), 0)
noncomputable def sL1NewFS : Fsp := ⟨14, [slF .u8], [shT .cur], false, false, fun x => sL1New x⟩
noncomputable def sL3Row (a : GRow) : Option (GRow) :=
  (gd (0 + a.cells.length)).bind fun _ =>
  (gd (0 + a.orig.length)).bind fun _ =>
  some (GRow.mk ([] ++ a.cells) ([] ++ a.orig))
noncomputable def sL3RowFS : Fsp := ⟨75, [shT .row], [shT .row], true, false, fun x => sL3Row x⟩
noncomputable def sL3CopyB (rsL3Copy : GVal → Option (GVal)) (a : GVal) : Option (GVal) :=
  (gd (0 + a.columns.length)).bind fun _ =>
  loopD (fun (x1 : Int × Int × Int × Str × (List GVal) × (List Str) × (List GRow) × Int × Int × Int × Str × (List GVal) × (List Str) × (List GRow) × Int × Int × Int × Str × (List GVal) × (List Str) × (List GRow) × Int) =>
    bif (decide (x1.2.2.2.2.2.2.2.2.2.2.2.2.2.2.2.2.2.2.2.2.2 < (x1.2.2.2.2.1.length : Int))) then
      (idx x1.2.2.2.2.1 x1.2.2.2.2.2.2.2.2.2.2.2.2.2.2.2.2.2.2.2.2.2).bind fun e2 =>
      (rsL3Copy (reVal e2)).bind fun r3 =>
      (gd (x1.2.2.2.2.2.2.2.2.2.2.2.2.2.2.2.2.2.2.1.length + [reVal r3].length)).bind fun _ =>
      some (.inl (x1.1, x1.2.1, x1.2.2.1, x1.2.2.2.1, x1.2.2.2.2.1, x1.2.2.2.2.2.1, x1.2.2.2.2.2.2.1, x1.2.2.2.2.2.2.2.1, x1.2.2.2.2.2.2.2.2.1, x1.2.2.2.2.2.2.2.2.2.1, x1.2.2.2.2.2.2.2.2.2.2.1, x1.2.2.2.2.2.2.2.2.2.2.2.1, x1.2.2.2.2.2.2.2.2.2.2.2.2.1, x1.2.2.2.2.2.2.2.2.2.2.2.2.2.1, x1.2.2.2.2.2.2.2.2.2.2.2.2.2.2.1, x1.2.2.2.2.2.2.2.2.2.2.2.2.2.2.2.1, x1.2.2.2.2.2.2.2.2.2.2.2.2.2.2.2.2.1, x1.2.2.2.2.2.2.2.2.2.2.2.2.2.2.2.2.2.1, x1.2.2.2.2.2.2.2.2.2.2.2.2.2.2.2.2.2.2.1 ++ [reVal r3], x1.2.2.2.2.2.2.2.2.2.2.2.2.2.2.2.2.2.2.2.1, x1.2.2.2.2.2.2.2.2.2.2.2.2.2.2.2.2.2.2.2.2.1, w64 (x1.2.2.2.2.2.2.2.2.2.2.2.2.2.2.2.2.2.2.2.2.2 + 1)))
    else
      (
        loopD (fun (x4 : Int × Int × Int × Str × (List GVal) × (List Str) × (List GRow) × Int × Int × Int × Str × (List GVal) × (List Str) × (List GRow) × Int × Int × Int × Str × (List GVal) × (List Str) × (List GRow) × Int) =>
          bif (decide (x4.2.2.2.2.2.2.2.2.2.2.2.2.2.2.2.2.2.2.2.2.2 < (x4.2.2.2.2.2.2.1.length : Int))) then
            (idx x4.2.2.2.2.2.2.1 x4.2.2.2.2.2.2.2.2.2.2.2.2.2.2.2.2.2.2.2.2.2).bind fun e5 =>
            (sL3Row e5).bind fun r6 =>
            (gd (x4.2.2.2.2.2.2.2.2.2.2.2.2.2.2.2.2.2.2.2.2.1.length + [r6].length)).bind fun _ =>
            some (.inl (x4.1, x4.2.1, x4.2.2.1, x4.2.2.2.1, x4.2.2.2.2.1, x4.2.2.2.2.2.1, x4.2.2.2.2.2.2.1, x4.2.2.2.2.2.2.2.1, x4.2.2.2.2.2.2.2.2.1, x4.2.2.2.2.2.2.2.2.2.1, x4.2.2.2.2.2.2.2.2.2.2.1, x4.2.2.2.2.2.2.2.2.2.2.2.1, x4.2.2.2.2.2.2.2.2.2.2.2.2.1, x4.2.2.2.2.2.2.2.2.2.2.2.2.2.1, x4.2.2.2.2.2.2.2.2.2.2.2.2.2.2.1, x4.2.2.2.2.2.2.2.2.2.2.2.2.2.2.2.1, x4.2.2.2.2.2.2.2.2.2.2.2.2.2.2.2.2.1, x4.2.2.2.2.2.2.2.2.2.2.2.2.2.2.2.2.2.1, x4.2.2.2.2.2.2.2.2.2.2.2.2.2.2.2.2.2.2.1, x4.2.2.2.2.2.2.2.2.2.2.2.2.2.2.2.2.2.2.2.1, x4.2.2.2.2.2.2.2.2.2.2.2.2.2.2.2.2.2.2.2.2.1 ++ [r6], w64 (x4.2.2.2.2.2.2.2.2.2.2.2.2.2.2.2.2.2.2.2.2.2 + 1)))
          else
            some (.inr (GVal.mk x4.2.2.2.2.2.2.2.2.2.2.2.2.2.2.1 x4.2.2.2.2.2.2.2.2.2.2.2.2.2.2.2.1 x4.2.2.2.2.2.2.2.2.2.2.2.2.2.2.2.2.1 x4.2.2.2.2.2.2.2.2.2.2.2.2.2.2.2.2.2.1 x4.2.2.2.2.2.2.2.2.2.2.2.2.2.2.2.2.2.2.1 x4.2.2.2.2.2.2.2.2.2.2.2.2.2.2.2.2.2.2.2.1 x4.2.2.2.2.2.2.2.2.2.2.2.2.2.2.2.2.2.2.2.2.1))
        ) (x1.1, x1.2.1, x1.2.2.1, x1.2.2.2.1, x1.2.2.2.2.1, x1.2.2.2.2.2.1, x1.2.2.2.2.2.2.1, x1.2.2.2.2.2.2.2.1, x1.2.2.2.2.2.2.2.2.1, x1.2.2.2.2.2.2.2.2.2.1, x1.2.2.2.2.2.2.2.2.2.2.1, x1.2.2.2.2.2.2.2.2.2.2.2.1, x1.2.2.2.2.2.2.2.2.2.2.2.2.1, x1.2.2.2.2.2.2.2.2.2.2.2.2.2.1, x1.2.2.2.2.2.2.2.2.2.2.2.2.2.2.1, x1.2.2.2.2.2.2.2.2.2.2.2.2.2.2.2.1, x1.2.2.2.2.2.2.2.2.2.2.2.2.2.2.2.2.1, x1.2.2.2.2.2.2.2.2.2.2.2.2.2.2.2.2.2.1, x1.2.2.2.2.2.2.2.2.2.2.2.2.2.2.2.2.2.2.1, x1.2.2.2.2.2.2.2.2.2.2.2.2.2.2.2.2.2.2.2.1, x1.2.2.2.2.2.2.2.2.2.2.2.2.2.2.2.2.2.2.2.2.1, 0)
      ).bind fun r => some (.inr r)
  ) (a.kind, a.n, a.step, a.text, a.list, a.columns, a.rows, 0, 0, 0, [], [], [], [], a.kind, a.n, a.step, a.text, [], [] ++ a.columns, [], 0)
noncomputable def sL3CopyG : Nat → (GVal → Option (GVal))
  | 0 => fun _ => none
  | n + 1 => sL3CopyB (sL3CopyG n)
noncomputable def sL3Copy (a : GVal) : Option (GVal) := (sL3CopyG (siz a + 1)) a
noncomputable def sL3CopyFS : Fsp := ⟨67, [shT .val], [shT .val], true, false, fun x => sL3Copy x⟩
noncomputable def sL3CopyFSN (n : Nat) : Fsp := ⟨67, [shT .val], [shT .val], true, false, fun x => (sL3CopyG n) x⟩
noncomputable def sL16Read (a : GRead) : Option (GRead) :=
  (sL3Copy (reVal a.result)).bind fun r1 =>
  some (GRead.mk a.kind a.n a.time a.text (reVal r1))
noncomputable def sL16ReadFS : Fsp := ⟨57, [shT .read], [shT .read], true, false, fun x => sL16Read x⟩
noncomputable def sL16Reads (a : List GRead) : Option ((List GRead)) :=
  loopD (fun (x1 : (List GRead) × (List GRead) × Int) =>
    bif (decide (x1.2.2 < (x1.1.length : Int))) then
      (idx x1.1 x1.2.2).bind fun e2 =>
      (sL16Read (reRead e2)).bind fun r3 =>
      (gd (x1.2.1.length + [reRead r3].length)).bind fun _ =>
      some (.inl (x1.1, x1.2.1 ++ [reRead r3], w64 (x1.2.2 + 1)))
    else
      some (.inr (x1.2.1))
  ) (a, [], 0)
noncomputable def sL16ReadsFS : Fsp := ⟨40, [slF .read], [slF .read], true, false, fun x => sL16Reads x⟩
noncomputable def sL41Copy (a : GOp) : Option (GOp) :=
  (gd (0 + a.seen.length)).bind fun _ =>
  (sL16Reads a.reads).bind fun r1 =>
  some (GOp.mk a.time a.by_ a.kind ([] ++ a.seen) a.edit a.src a.dst a.cell a.version r1)
noncomputable def sL41CopyFS : Fsp := ⟨21, [shT .op], [shT .op], true, false, fun x => sL41Copy x⟩
noncomputable def sL1Max (a : Int) (b : Int) : Option (Int) :=
  bif (decide (a > b)) then
    some (a)
  else
    some (b)
noncomputable def sL1MaxFS : Fsp := ⟨41, [shF .int, shF .int], [shF .int], true, false, fun x => sL1Max x.1 x.2⟩
noncomputable def sLastTime (a : List GOp) : Option (Int) :=
  loopD (fun (x1 : (List GOp) × Int × Int) =>
    bif (decide (x1.2.2 < (x1.1.length : Int))) then
      (idx x1.1 x1.2.2).bind fun e2 =>
      (sL1Max x1.2.1 e2.time).bind fun r3 =>
      some (.inl (x1.1, r3, w64 (x1.2.2 + 1)))
    else
      some (.inr (x1.2.1))
  ) (a, 0, 0)
noncomputable def sLastTimeFS : Fsp := ⟨22, [slF .op], [shF .int], true, false, fun x => sLastTime x⟩
noncomputable def sCountBy (a : List GOp) (b : Int) : Option (Int) :=
  loopD (fun (x1 : (List GOp) × Int × Int × Int) =>
    bif (decide (x1.2.2.2 < (x1.1.length : Int))) then
      (idx x1.1 x1.2.2.2).bind fun e2 =>
      bif (e2.by_ == x1.2.1) then
        some (.inl (x1.1, x1.2.1, w64 (x1.2.2.1 + 1), w64 (x1.2.2.2 + 1)))
      else
        some (.inl (x1.1, x1.2.1, x1.2.2.1, w64 (x1.2.2.2 + 1)))
    else
      some (.inr (x1.2.2.1))
  ) (a, b, 0, 0)
noncomputable def sCountByFS : Fsp := ⟨29, [slF .op, shF .int], [shF .int], true, false, fun x => sCountBy x.1 x.2⟩
noncomputable def sSeenBy (a : GReplica) : Option ((List Int)) :=
  loopD (fun (x1 : Int × (List GOp) × (List Int) × Int) =>
    bif (decide (x1.2.2.2 < 3)) then
      (sCountBy x1.2.1 x1.2.2.2).bind fun r2 =>
      (gd (x1.2.2.1.length + [r2].length)).bind fun _ =>
      some (.inl (x1.1, x1.2.1, x1.2.2.1 ++ [r2], w64 (x1.2.2.2 + 1)))
    else
      some (.inr (x1.2.2.1))
  ) (a.id, a.ops, [], 0)
noncomputable def sSeenByFS : Fsp := ⟨23, [shT .replica], [slF .int], true, false, fun x => sSeenBy x⟩
noncomputable def sL41Ops (a : List GOp) : Option ((List GOp)) :=
  loopD (fun (x1 : (List GOp) × (List GOp) × Int) =>
    bif (decide (x1.2.2 < (x1.1.length : Int))) then
      (idx x1.1 x1.2.2).bind fun e2 =>
      (sL41Copy e2).bind fun r3 =>
      (gd (x1.2.1.length + [r3].length)).bind fun _ =>
      some (.inl (x1.1, x1.2.1 ++ [r3], w64 (x1.2.2 + 1)))
    else
      some (.inr (x1.2.1))
  ) (a, [], 0)
noncomputable def sL41OpsFS : Fsp := ⟨42, [slF .op], [slF .op], true, false, fun x => sL41Ops x⟩
noncomputable def sL43Copy (a : GReplica) : Option (GReplica) :=
  (sL41Ops a.ops).bind fun r1 =>
  some (GReplica.mk a.id r1)
noncomputable def sL43CopyFS : Fsp := ⟨24, [shT .replica], [shT .replica], true, false, fun x => sL43Copy x⟩
noncomputable def sL1In (a : Int) (b : Int) (c : Int) : Option (Bool) :=
  bif (decide (a ≥ b)) then
    some ((decide (a ≤ c)))
  else
    some (false)
noncomputable def sL1InFS : Fsp := ⟨28, [shF .int, shF .int, shF .int], [shF .bool], true, false, fun x => sL1In x.1 x.2.1 x.2.2⟩
noncomputable def sOpBefore (a : GOp) (b : GOp) : Option (Bool) :=
  bif (decide (a.time < b.time)) then
    some (true)
  else
    bif (a.time == b.time) then
      some ((decide (a.by_ < b.by_)))
    else
      some (false)
noncomputable def sOpBeforeFS : Fsp := ⟨9, [shT .op, shT .op], [shF .bool], true, false, fun x => sOpBefore x.1 x.2⟩
noncomputable def sL41Seen (a : List Int) : Option (Bool) :=
  loopD (fun (x1 : (List Int) × Int) =>
    bif (decide (x1.2 < (x1.1.length : Int))) then
      (idx x1.1 x1.2).bind fun e2 =>
      (sL1In e2 0 60).bind fun r3 =>
      bif (!r3) then
        some (.inr (false))
      else
        some (.inl (x1.1, w64 (x1.2 + 1)))
    else
      some (.inr (((x1.1.length : Int) == 3)))
  ) (a, 0)
noncomputable def sL41SeenFS : Fsp := ⟨68, [slF .int], [shF .bool], true, false, fun x => sL41Seen x⟩
noncomputable def sIsValidOp (a : GOp) : Option (Bool) :=
  (sL1In a.time 1 300).bind fun r1 =>
  bif (!r1) then
    some (false)
  else
  (sL1In a.by_ 0 2).bind fun r2 =>
  bif (!r2) then
    some (false)
  else
  (sL41Seen a.seen).bind fun r3 =>
  bif (!r3) then
    some (false)
  else
  (sL1In a.kind 1 3).bind fun r4 =>
  bif (!r4) then
    some (false)
  else
  bif (a.src == []) then
    bif (a.cell == 0) then
      bif (a.version == 0) then
        bif (a.kind == 1) then
          bif (a.dst == []) then
            some (((a.reads.length : Int) == 0))
          else
            some (false)
        else
          bif (a.kind == 2) then
            bif ((a.edit.kind == 0) && ((a.edit.pos == 0) && ((a.edit.cell.id == 0) && ((a.edit.cell.version == 0) && ((a.edit.cell.kind == 0) && ((a.edit.cell.name == []) && ((a.edit.cell.code == []) && (a.edit.cell.n == 0)))))))) then
              some (((a.reads.length : Int) == 0))
            else
              some (false)
          else
            bif ((a.edit.kind == 0) && ((a.edit.pos == 0) && ((a.edit.cell.id == 0) && ((a.edit.cell.version == 0) && ((a.edit.cell.kind == 0) && ((a.edit.cell.name == []) && ((a.edit.cell.code == []) && (a.edit.cell.n == 0)))))))) then
              some ((a.dst == []))
            else
              some (false)
      else
      bif (a.kind == 1) then
        bif (a.dst == []) then
          some (false)
        else
          some (false)
      else
        bif (a.kind == 2) then
          bif ((a.edit.kind == 0) && ((a.edit.pos == 0) && ((a.edit.cell.id == 0) && ((a.edit.cell.version == 0) && ((a.edit.cell.kind == 0) && ((a.edit.cell.name == []) && ((a.edit.cell.code == []) && (a.edit.cell.n == 0)))))))) then
            some (false)
          else
            some (false)
        else
          bif ((a.edit.kind == 0) && ((a.edit.pos == 0) && ((a.edit.cell.id == 0) && ((a.edit.cell.version == 0) && ((a.edit.cell.kind == 0) && ((a.edit.cell.name == []) && ((a.edit.cell.code == []) && (a.edit.cell.n == 0)))))))) then
            some ((a.dst == []))
          else
            some (false)
    else
    bif (a.kind == 1) then
      bif (a.dst == []) then
        some (false)
      else
        some (false)
    else
      bif (a.kind == 2) then
        bif ((a.edit.kind == 0) && ((a.edit.pos == 0) && ((a.edit.cell.id == 0) && ((a.edit.cell.version == 0) && ((a.edit.cell.kind == 0) && ((a.edit.cell.name == []) && ((a.edit.cell.code == []) && (a.edit.cell.n == 0)))))))) then
          some (false)
        else
          some (false)
      else
        bif ((a.edit.kind == 0) && ((a.edit.pos == 0) && ((a.edit.cell.id == 0) && ((a.edit.cell.version == 0) && ((a.edit.cell.kind == 0) && ((a.edit.cell.name == []) && ((a.edit.cell.code == []) && (a.edit.cell.n == 0)))))))) then
          some ((a.dst == []))
        else
          some (false)
  else
  bif (a.cell == 0) then
    bif (a.version == 0) then
      bif (a.kind == 1) then
        some (false)
      else
        bif (a.kind == 2) then
          bif ((a.edit.kind == 0) && ((a.edit.pos == 0) && ((a.edit.cell.id == 0) && ((a.edit.cell.version == 0) && ((a.edit.cell.kind == 0) && ((a.edit.cell.name == []) && ((a.edit.cell.code == []) && (a.edit.cell.n == 0)))))))) then
            some (((a.reads.length : Int) == 0))
          else
            some (false)
        else
          bif ((a.edit.kind == 0) && ((a.edit.pos == 0) && ((a.edit.cell.id == 0) && ((a.edit.cell.version == 0) && ((a.edit.cell.kind == 0) && ((a.edit.cell.name == []) && ((a.edit.cell.code == []) && (a.edit.cell.n == 0)))))))) then
            some (false)
          else
            some (false)
    else
    bif (a.kind == 1) then
      some (false)
    else
      bif (a.kind == 2) then
        bif ((a.edit.kind == 0) && ((a.edit.pos == 0) && ((a.edit.cell.id == 0) && ((a.edit.cell.version == 0) && ((a.edit.cell.kind == 0) && ((a.edit.cell.name == []) && ((a.edit.cell.code == []) && (a.edit.cell.n == 0)))))))) then
          some (false)
        else
          some (false)
      else
        bif ((a.edit.kind == 0) && ((a.edit.pos == 0) && ((a.edit.cell.id == 0) && ((a.edit.cell.version == 0) && ((a.edit.cell.kind == 0) && ((a.edit.cell.name == []) && ((a.edit.cell.code == []) && (a.edit.cell.n == 0)))))))) then
          some (false)
        else
          some (false)
  else
  bif (a.kind == 1) then
    some (false)
  else
    bif (a.kind == 2) then
      bif ((a.edit.kind == 0) && ((a.edit.pos == 0) && ((a.edit.cell.id == 0) && ((a.edit.cell.version == 0) && ((a.edit.cell.kind == 0) && ((a.edit.cell.name == []) && ((a.edit.cell.code == []) && (a.edit.cell.n == 0)))))))) then
        some (false)
      else
        some (false)
    else
      bif ((a.edit.kind == 0) && ((a.edit.pos == 0) && ((a.edit.cell.id == 0) && ((a.edit.cell.version == 0) && ((a.edit.cell.kind == 0) && ((a.edit.cell.name == []) && ((a.edit.cell.code == []) && (a.edit.cell.n == 0)))))))) then
        some (false)
      else
        some (false)
noncomputable def sIsValidOpFS : Fsp := ⟨58, [shT .op], [shF .bool], true, false, fun x => sIsValidOp x⟩
noncomputable def sIsValidLog (a : List GOp) : Option (Bool) :=
  loopD (fun (x1 : (List GOp) × Int) =>
    bif (decide (x1.2 < (x1.1.length : Int))) then
      (idx x1.1 x1.2).bind fun e2 =>
      (sIsValidOp e2).bind fun r3 =>
      bif (!r3) then
        some (.inr (false))
      else
      bif (decide (x1.2 > 0)) then
        (idx x1.1 (w64 (x1.2 - 1))).bind fun e4 =>
        (idx x1.1 x1.2).bind fun e5 =>
        (sOpBefore e4 e5).bind fun r6 =>
        bif (!r6) then
          some (.inr (false))
        else
          some (.inl (x1.1, w64 (x1.2 + 1)))
      else
        some (.inl (x1.1, w64 (x1.2 + 1)))
    else
      some (.inr ((decide ((x1.1.length : Int) ≤ 60))))
  ) (a, 0)
noncomputable def sIsValidLogFS : Fsp := ⟨43, [slF .op], [shF .bool], true, false, fun x => sIsValidLog x⟩
noncomputable def sIsValidReplica (a : GReplica) : Option (Bool) :=
  (sL1In a.id 0 2).bind fun r1 =>
  bif r1 then
    (sIsValidLog a.ops).bind fun r2 =>
    some (r2)
  else
    some (false)
noncomputable def sIsValidReplicaFS : Fsp := ⟨25, [shT .replica], [shF .bool], true, false, fun x => sIsValidReplica x⟩
noncomputable def sAddOp (a : GReplica) (b : GOp) : Option (GReplica × Bool) :=
  (sL41Copy b).bind fun r1 =>
  (sLastTime a.ops).bind fun r2 =>
  (sSeenBy a).bind fun r3 =>
  (sL43Copy a).bind fun r4 =>
  (gd (r4.ops.length + [GOp.mk (w64 (r2 + 1)) a.id r1.kind r3 r1.edit r1.src r1.dst r1.cell r1.version r1.reads].length)).bind fun _ =>
  (sIsValidReplica a).bind fun r5 =>
  bif (!r5) then
    (sL43Copy a).bind fun r6 =>
    some (r6, false)
  else
    (sIsValidReplica (GReplica.mk r4.id (r4.ops ++ [GOp.mk (w64 (r2 + 1)) a.id r1.kind r3 r1.edit r1.src r1.dst r1.cell r1.version r1.reads]))).bind fun r7 =>
    bif (!r7) then
      (sL43Copy a).bind fun r8 =>
      some (r8, false)
    else
      some (GReplica.mk r4.id (r4.ops ++ [GOp.mk (w64 (r2 + 1)) a.id r1.kind r3 r1.edit r1.src r1.dst r1.cell r1.version r1.reads]), true)
noncomputable def sAddOpFS : Fsp := ⟨7, [shT .replica, shT .op], [shT .replica, shF .bool], true, false, fun x => sAddOp x.1 x.2⟩
noncomputable def sL1Byte (a : GCur) : Option (GCur × Int) :=
  bif (decide (a.i < (a.b.length : Int))) then
    (idx a.b a.i).bind fun e1 =>
    some (GCur.mk a.b (w64 (a.i + 1)) (w64 ((w64 (a.h * 6364136223846793005)) + 1442695040888963407)), w64 (((BitVec.ofInt 64 (w64 ((w64 (((BitVec.ofInt 64 (w64 (((BitVec.ofInt 64 ((w64 ((w64 (a.h * 6364136223846793005)) + 1442695040888963407)).fdiv (2 ^ 33)) ^^^ BitVec.ofInt 64 ((w64 ((w64 (a.h * 6364136223846793005)) + 1442695040888963407)).fdiv (2 ^ 45))).toNat : Int))) &&& BitVec.ofInt 64 255).toNat : Int))) + (w64 (e1)))) &&& BitVec.ofInt 64 255).toNat : Int)))
  else
    some (GCur.mk a.b a.i (w64 ((w64 (a.h * 6364136223846793005)) + 1442695040888963407)), w64 (((BitVec.ofInt 64 (w64 (((BitVec.ofInt 64 ((w64 ((w64 (a.h * 6364136223846793005)) + 1442695040888963407)).fdiv (2 ^ 33)) ^^^ BitVec.ofInt 64 ((w64 ((w64 (a.h * 6364136223846793005)) + 1442695040888963407)).fdiv (2 ^ 45))).toNat : Int))) &&& BitVec.ofInt 64 255).toNat : Int)))
noncomputable def sL1ByteFS : Fsp := ⟨49, [shT .cur], [shT .cur, shF .int], false, false, fun x => sL1Byte x⟩
noncomputable def sL1Below (a : GCur) (b : Int) : Option (GCur × Int) :=
  bif (decide (b ≤ 0)) then
    some (a, 0)
  else
  bif (decide (b ≤ 256)) then
    (sL1Byte a).bind fun r1 =>
    (remI r1.2 b).bind fun q2 =>
    some (r1.1, q2)
  else
    (sL1Byte a).bind fun r3 =>
    (sL1Byte r3.1).bind fun r4 =>
    (sL1Byte r4.1).bind fun r5 =>
    (sL1Byte r5.1).bind fun r6 =>
    (remI (w64 ((w64 ((w64 ((w64 (r3.2 * 16777216)) + (w64 (r4.2 * 65536)))) + (w64 (r5.2 * 256)))) + r6.2)) b).bind fun q7 =>
    some (r6.1, q7)
noncomputable def sL1BelowFS : Fsp := ⟨32, [shT .cur, shF .int], [shT .cur, shF .int], false, false, fun x => sL1Below x.1 x.2⟩
noncomputable def sL1PickInt (a : GCur) (b : List Int) : Option (GCur × Int) :=
  (sL1Below a (b.length : Int)).bind fun r1 =>
  (idx b r1.2).bind fun e2 =>
  some (r1.1, e2)
noncomputable def sL1PickIntFS : Fsp := ⟨33, [shT .cur, slF .int], [shT .cur, shF .int], false, false, fun x => sL1PickInt x.1 x.2⟩
noncomputable def sL1Pick (a : GCur) (b : List Str) : Option (GCur × Str) :=
  (sL1Below a (b.length : Int)).bind fun r1 =>
  (idx b r1.2).bind fun e2 =>
  some (r1.1, e2)
noncomputable def sL1PickFS : Fsp := ⟨51, [shT .cur, slF .str], [shT .cur, shF .str], false, false, fun x => sL1Pick x.1 x.2⟩
noncomputable def sFormatInt (a : Int) : Option (Str) :=
  bif (a == 0) then
    some ([48])
  else
  loopD (fun (x1 : Int × Bool × Str) =>
    bif (x1.1 != 0) then
      bif (decide ((x1.1.tmod 10) < 0)) then
        (gd ((bytesOf [w8 (w64 (48 + (w64 (0 - (x1.1.tmod 10)))))]).length + x1.2.2.length)).bind fun _ =>
        some (.inl (w64 (x1.1.tdiv 10), x1.2.1, (bytesOf [w8 (w64 (48 + (w64 (0 - (x1.1.tmod 10)))))]) ++ x1.2.2))
      else
        (gd ((bytesOf [w8 (w64 (48 + (x1.1.tmod 10)))]).length + x1.2.2.length)).bind fun _ =>
        some (.inl (w64 (x1.1.tdiv 10), x1.2.1, (bytesOf [w8 (w64 (48 + (x1.1.tmod 10)))]) ++ x1.2.2))
    else
      (
        bif x1.2.1 then
          (gd ([45].length + x1.2.2.length)).bind fun _ =>
          some ([45] ++ x1.2.2)
        else
          some (x1.2.2)
      ).bind fun r => some (.inr r)
  ) (a, (decide (a < 0)), [])
noncomputable def sFormatIntFS : Fsp := ⟨72, [shF .int], [shF .str], true, false, fun x => sFormatInt x⟩
noncomputable def sL10Num (a : Int) : Option (GExpr) :=
  some (GExpr.mk 1 a [] [])
noncomputable def sL10NumFS : Fsp := ⟨84, [shF .int], [shT .expr], true, false, fun x => sL10Num x⟩
noncomputable def sL10Name (a : Str) : Option (GExpr) :=
  some (GExpr.mk 3 0 a [])
noncomputable def sL10NameFS : Fsp := ⟨89, [shF .str], [shT .expr], true, false, fun x => sL10Name x⟩
noncomputable def sL10Leaf (a : GCur) (b : List Str) : Option (GCur × GExpr) :=
  (sL1Below a 5).bind fun r1 =>
  bif (r1.2 == 0) then
    (sL1Pick r1.1 ([[97], [97, 98], [], [98]] : List Str)).bind fun r2 =>
    some (r2.1, GExpr.mk 2 0 r2.2 [])
  else
  bif (r1.2 == 1) then
    (sL1Below r1.1 6).bind fun r3 =>
    (sL10Num r3.2).bind fun r4 =>
    some (r3.1, reExpr r4)
  else
    bif (r1.2 == 2) then
      (sL1Below r1.1 6).bind fun r5 =>
      (sL10Num r5.2).bind fun r6 =>
      some (r5.1, reExpr r6)
    else
      (sL1Pick r1.1 b).bind fun r7 =>
      (sL10Name r7.2).bind fun r8 =>
      some (r7.1, reExpr r8)
noncomputable def sL10LeafFS : Fsp := ⟨79, [shT .cur, slF .str], [shT .cur, shT .expr], false, true, fun x => sL10Leaf x.1 x.2⟩
noncomputable def sL10Op (a : Int) (b : GExpr) (c : GExpr) : Option (GExpr) :=
  some (GExpr.mk 6 a [] [reExpr b, reExpr c])
noncomputable def sL10OpFS : Fsp := ⟨80, [shF .int, shT .expr, shT .expr], [shT .expr], false, true, fun x => sL10Op x.1 x.2.1 x.2.2⟩
noncomputable def sL1Once (a : GCur) (b : Int) : Option (GCur × Bool) :=
  (sL1Below a b).bind fun r1 =>
  some (r1.1, (r1.2 == 0))
noncomputable def sL1OnceFS : Fsp := ⟨47, [shT .cur, shF .int], [shT .cur, shF .bool], false, false, fun x => sL1Once x.1 x.2⟩
noncomputable def sL10List (a : GCur) (b : List Str) : Option (GCur × GExpr) :=
  (sL1Below a 4).bind fun r1 =>
  loopD (fun (x2 : (List Int) × Int × Int × (List Str) × Int × Int × Str × (List GExpr) × Int × Int × Str × (List GExpr) × Int × Int) =>
    bif (decide (x2.2.2.2.2.2.2.2.2.2.2.2.2.2 < x2.2.2.2.2.2.2.2.2.2.2.2.2.1)) then
      (sL1Below (GCur.mk x2.1 x2.2.1 x2.2.2.1) 5).bind fun r3 =>
      (sL10Num r3.2).bind fun r4 =>
      (gd (x2.2.2.2.2.2.2.2.2.2.2.2.1.length + [reExpr r4].length)).bind fun _ =>
      (sL1Once r3.1 4).bind fun r5 =>
      bif r5.2 then
        (sL10Leaf r5.1 x2.2.2.2.1).bind fun r6 =>
        (idx (x2.2.2.2.2.2.2.2.2.2.2.2.1 ++ [reExpr r4]) x2.2.2.2.2.2.2.2.2.2.2.2.2.2).bind fun _ =>
        ((x2.2.2.2.2.2.2.2.2.2.2.2.1 ++ [reExpr r4])[x2.2.2.2.2.2.2.2.2.2.2.2.2.2.toNat]?).bind fun e8 =>
        some (.inl (r6.1.b, r6.1.i, r6.1.h, x2.2.2.2.1, x2.2.2.2.2.1, x2.2.2.2.2.2.1, x2.2.2.2.2.2.2.1, x2.2.2.2.2.2.2.2.1, x2.2.2.2.2.2.2.2.2.1, x2.2.2.2.2.2.2.2.2.2.1, x2.2.2.2.2.2.2.2.2.2.2.1, (x2.2.2.2.2.2.2.2.2.2.2.2.1 ++ [reExpr r4]).set x2.2.2.2.2.2.2.2.2.2.2.2.2.2.toNat (reExpr r6.2), x2.2.2.2.2.2.2.2.2.2.2.2.2.1, w64 (x2.2.2.2.2.2.2.2.2.2.2.2.2.2 + 1)))
      else
        some (.inl (r5.1.b, r5.1.i, r5.1.h, x2.2.2.2.1, x2.2.2.2.2.1, x2.2.2.2.2.2.1, x2.2.2.2.2.2.2.1, x2.2.2.2.2.2.2.2.1, x2.2.2.2.2.2.2.2.2.1, x2.2.2.2.2.2.2.2.2.2.1, x2.2.2.2.2.2.2.2.2.2.2.1, x2.2.2.2.2.2.2.2.2.2.2.2.1 ++ [reExpr r4], x2.2.2.2.2.2.2.2.2.2.2.2.2.1, w64 (x2.2.2.2.2.2.2.2.2.2.2.2.2.2 + 1)))
    else
      some (.inr (GCur.mk x2.1 x2.2.1 x2.2.2.1, GExpr.mk x2.2.2.2.2.2.2.2.2.1 x2.2.2.2.2.2.2.2.2.2.1 x2.2.2.2.2.2.2.2.2.2.2.1 x2.2.2.2.2.2.2.2.2.2.2.2.1))
  ) (r1.1.b, r1.1.i, r1.1.h, b, 0, 0, [], [], 4, 0, [], [], r1.2, 0)
noncomputable def sL10ListFS : Fsp := ⟨81, [shT .cur, slF .str], [shT .cur, shT .expr], false, true, fun x => sL10List x.1 x.2⟩
noncomputable def sL10Call (a : Str) (b : List GExpr) : Option (GExpr) :=
  some (GExpr.mk 5 0 a b)
noncomputable def sL10CallFS : Fsp := ⟨82, [shF .str, slF .expr], [shT .expr], false, false, fun x => sL10Call x.1 x.2⟩
noncomputable def sL1PickExpr (a : GCur) (b : GExpr) (c : GExpr) : Option (GCur × GExpr) :=
  (sL1Once a 2).bind fun r1 =>
  bif r1.2 then
    some (r1.1, reExpr b)
  else
    some (r1.1, reExpr c)
noncomputable def sL1PickExprFS : Fsp := ⟨83, [shT .cur, shT .expr, shT .expr], [shT .cur, shT .expr], false, false, fun x => sL1PickExpr x.1 x.2.1 x.2.2⟩
noncomputable def sL10Column (a : GCur) : Option (GCur × GExpr) :=
  (sL1Pick a ([[97], [97], [98], [99], [120]] : List Str)).bind fun r1 =>
  some (r1.1, GExpr.mk 2 0 r1.2 [])
noncomputable def sL10ColumnFS : Fsp := ⟨85, [shT .cur], [shT .cur, shT .expr], false, true, fun x => sL10Column x⟩
noncomputable def sL10Table (a : GCur) : Option (GCur × GExpr) :=
  (sL1Below a 4).bind fun r1 =>
  loopD (fun (x2 : (List Int) × Int × Int × Int × Int × Str × (List GExpr) × Int × Int × Str × (List GExpr) × Int × Int) =>
    bif (decide (x2.2.2.2.2.2.2.2.2.2.2.2.2 < x2.2.2.2.2.2.2.2.2.2.2.2.1)) then
      (sL1Below (GCur.mk x2.1 x2.2.1 x2.2.2.1) 3).bind fun r3 =>
      (sL10Num r3.2).bind fun r4 =>
      (sL1Below r3.1 4).bind fun r5 =>
      (sL10Num r5.2).bind fun r6 =>
      (gd (x2.2.2.2.2.2.2.2.2.2.2.1.length + ([GExpr.mk 4 0 [] [reExpr r4, reExpr r6]]).length)).bind fun _ =>
      some (.inl (r5.1.b, r5.1.i, r5.1.h, x2.2.2.2.1, x2.2.2.2.2.1, x2.2.2.2.2.2.1, x2.2.2.2.2.2.2.1, x2.2.2.2.2.2.2.2.1, x2.2.2.2.2.2.2.2.2.1, x2.2.2.2.2.2.2.2.2.2.1, x2.2.2.2.2.2.2.2.2.2.2.1 ++ ([GExpr.mk 4 0 [] [reExpr r4, reExpr r6]]), x2.2.2.2.2.2.2.2.2.2.2.2.1, w64 (x2.2.2.2.2.2.2.2.2.2.2.2.2 + 1)))
    else
      (
        (sL10Call [116, 97, 98, 108, 101] ([GExpr.mk 2 0 [97, 32, 98] [], GExpr.mk x2.2.2.2.2.2.2.2.1 x2.2.2.2.2.2.2.2.2.1 x2.2.2.2.2.2.2.2.2.2.1 x2.2.2.2.2.2.2.2.2.2.2.1])).bind fun r7 =>
        some (GCur.mk x2.1 x2.2.1 x2.2.2.1, reExpr r7)
      ).bind fun r => some (.inr r)
  ) (r1.1.b, r1.1.i, r1.1.h, 0, 0, [], [], 4, 0, [], [], r1.2, 0)
noncomputable def sL10TableFS : Fsp := ⟨86, [shT .cur], [shT .cur, shT .expr], false, false, fun x => sL10Table x⟩
noncomputable def sL10MakeB (rsL10Make : GCur → (List Str) → Int → Option (GCur × GExpr)) (a : GCur) (b : List Str) (c : Int) : Option (GCur × GExpr) :=
  bif (decide (c < 2)) then
    (sL10Leaf a b).bind fun r1 =>
    some (r1.1, reExpr r1.2)
  else
  (sL1Below a 13).bind fun r2 =>
  bif (r2.2 == 0) then
    (sL1Below r2.1 5).bind fun r3 =>
    (rsL10Make r3.1 b (w64 (c - 1))).bind fun r4 =>
    (rsL10Make r4.1 b (w64 (c - 1))).bind fun r5 =>
    (sL10Op (w64 (1 + r3.2)) (reExpr r4.2) (reExpr r5.2)).bind fun r6 =>
    some (r5.1, reExpr r6)
  else
  bif (r2.2 == 1) then
    (sL1Below r2.1 5).bind fun r7 =>
    (rsL10Make r7.1 b (w64 (c - 1))).bind fun r8 =>
    (rsL10Make r8.1 b (w64 (c - 1))).bind fun r9 =>
    (sL10Op (w64 (1 + r7.2)) (reExpr r8.2) (reExpr r9.2)).bind fun r10 =>
    some (r9.1, reExpr r10)
  else
  bif (r2.2 == 2) then
    (idx b 0).bind fun e11 =>
    (sL1Pick r2.1 ([[117], [118], e11] : List Str)).bind fun r12 =>
    (rsL10Make r12.1 b (w64 (c - 1))).bind fun r13 =>
    (gd (([r12.2] : List Str).length + b.length)).bind fun _ =>
    (rsL10Make r13.1 (([r12.2] : List Str) ++ b) (w64 (c - 1))).bind fun r14 =>
    some (r14.1, GExpr.mk 7 0 r12.2 [reExpr r13.2, reExpr r14.2])
  else
  bif (r2.2 == 3) then
    (rsL10Make r2.1 b (w64 (c - 1))).bind fun r15 =>
    (rsL10Make r15.1 b (w64 (c - 1))).bind fun r16 =>
    (rsL10Make r16.1 b (w64 (c - 1))).bind fun r17 =>
    some (r17.1, GExpr.mk 8 0 [] [reExpr r15.2, reExpr r16.2, reExpr r17.2])
  else
  bif (r2.2 == 4) then
    (idx b 0).bind fun e18 =>
    (sL1Pick r2.1 ([[117], [118], e18] : List Str)).bind fun r19 =>
    (sL10List r19.1 b).bind fun r20 =>
    (gd (([r19.2, r19.2] : List Str).length + b.length)).bind fun _ =>
    (rsL10Make r20.1 (([r19.2, r19.2] : List Str) ++ b) (w64 (c - 1))).bind fun r21 =>
    some (r21.1, GExpr.mk 9 0 r19.2 [reExpr r20.2, reExpr r21.2])
  else
  bif (r2.2 == 5) then
    (sL10List r2.1 b).bind fun r22 =>
    some (r22.1, reExpr r22.2)
  else
  bif (r2.2 == 6) then
    (sL1Pick r2.1 ([[108, 101, 110], [115, 117, 109]] : List Str)).bind fun r23 =>
    (sL10List r23.1 b).bind fun r24 =>
    (rsL10Make r24.1 b (w64 (c - 1))).bind fun r25 =>
    (sL1PickExpr r25.1 (reExpr r24.2) (reExpr r25.2)).bind fun r26 =>
    (sL10Call r23.2 [reExpr r26.2]).bind fun r27 =>
    some (r26.1, reExpr r27)
  else
  bif (r2.2 == 7) then
    (sL1Pick r2.1 ([[116, 97, 107, 101], [115, 107, 105, 112], [110, 116, 104], [116, 97, 107, 101]] : List Str)).bind fun r28 =>
    (sL1Below r28.1 4).bind fun r29 =>
    (sL10Num r29.2).bind fun r30 =>
    (sL10List r29.1 b).bind fun r31 =>
    (sL1Below r31.1 9).bind fun r32 =>
    (sL10Num r32.2).bind fun r33 =>
    (sL1Below r32.1 4).bind fun r34 =>
    (sL10Num r34.2).bind fun r35 =>
    (sL10Call [114, 97, 110, 103, 101] [reExpr r33, reExpr r35]).bind fun r36 =>
    (sL1PickExpr r34.1 (reExpr r31.2) (reExpr r36)).bind fun r37 =>
    (sL10Call r28.2 [reExpr r30, reExpr r37.2]).bind fun r38 =>
    some (r37.1, reExpr r38)
  else
  bif (r2.2 == 8) then
    (sL10Column r2.1).bind fun r39 =>
    (sL1Below r39.1 3).bind fun r40 =>
    (sL10Num r40.2).bind fun r41 =>
    (sL10Table r40.1).bind fun r42 =>
    (rsL10Make r42.1 b (w64 (c - 1))).bind fun r43 =>
    (sL1PickExpr r43.1 (reExpr r42.2) (reExpr r43.2)).bind fun r44 =>
    (sL10Call [119, 104, 101, 114, 101] [reExpr r39.2, reExpr r41, reExpr r44.2]).bind fun r45 =>
    some (r44.1, reExpr r45)
  else
  bif (r2.2 == 9) then
    (sL10Column r2.1).bind fun r46 =>
    (sL10Column r46.1).bind fun r47 =>
    (sL10Table r47.1).bind fun r48 =>
    (rsL10Make r48.1 b (w64 (c - 1))).bind fun r49 =>
    (sL1PickExpr r49.1 (reExpr r48.2) (reExpr r49.2)).bind fun r50 =>
    (sL10Call [103, 114, 111, 117, 112] [reExpr r46.2, reExpr r47.2, reExpr r50.2]).bind fun r51 =>
    some (r50.1, reExpr r51)
  else
  bif (r2.2 == 10) then
    (sL10Table r2.1).bind fun r52 =>
    (rsL10Make r52.1 b (w64 (c - 1))).bind fun r53 =>
    (sL1PickExpr r53.1 (reExpr r52.2) (reExpr r53.2)).bind fun r54 =>
    (sL10Call [114, 111, 119, 115] [reExpr r54.2]).bind fun r55 =>
    some (r54.1, reExpr r55)
  else
  bif (r2.2 == 11) then
    (sL1Below r2.1 6).bind fun r56 =>
    (sL10Num (w64 (1 + r56.2))).bind fun r57 =>
    (sL10Call [99, 104, 97, 110, 99, 101] [reExpr r57]).bind fun r58 =>
    some (r56.1, reExpr r58)
  else
    (sL10Call [99, 108, 111, 99, 107] []).bind fun r59 =>
    (sL1Pick r2.1 ([[102], [103], [104]] : List Str)).bind fun r60 =>
    (sL10Call [102, 105, 108, 101] ([GExpr.mk 2 0 r60.2 []])).bind fun r61 =>
    (sL1PickExpr r60.1 (reExpr r59) (reExpr r61)).bind fun r62 =>
    some (r62.1, reExpr r62.2)
noncomputable def sL10MakeG : Nat → (GCur → (List Str) → Int → Option (GCur × GExpr))
  | 0 => fun _ _ _ => none
  | n + 1 => sL10MakeB (sL10MakeG n)
noncomputable def sL10Make (a : GCur) (b : List Str) (c : Int) : Option (GCur × GExpr) := (sL10MakeG (siz a + siz b + 1)) a b c
noncomputable def sL10MakeFS : Fsp := ⟨73, [shT .cur, slF .str, shF .int], [shT .cur, shT .expr], false, false, fun x => sL10Make x.1 x.2.1 x.2.2⟩
noncomputable def sL10MakeFSN (n : Nat) : Fsp := ⟨73, [shT .cur, slF .str, shF .int], [shT .cur, shT .expr], false, false, fun x => (sL10MakeG n) x.1 x.2.1 x.2.2⟩
noncomputable def sL10LeftB (rsL10Left : GExpr → Int → Option (Int)) (a : GExpr) (b : Int) : Option (Int) :=
  loopD (fun (x1 : Int × Int × Int × Str × (List GExpr) × Int) =>
    bif (decide (x1.2.2.2.2.2 < (x1.2.2.2.2.1.length : Int))) then
      bif (decide (x1.1 ≥ 0)) then
        (idx x1.2.2.2.2.1 x1.2.2.2.2.2).bind fun e2 =>
        (rsL10Left (reExpr e2) x1.1).bind fun r3 =>
        some (.inl (r3, x1.2.1, x1.2.2.1, x1.2.2.2.1, x1.2.2.2.2.1, w64 (x1.2.2.2.2.2 + 1)))
      else
        some (.inr (x1.1))
    else
      some (.inr (x1.1))
  ) (w64 (b - 1), a.kind, a.n, a.text, a.args, 0)
noncomputable def sL10LeftG : Nat → (GExpr → Int → Option (Int))
  | 0 => fun _ _ => none
  | n + 1 => sL10LeftB (sL10LeftG n)
noncomputable def sL10Left (a : GExpr) (b : Int) : Option (Int) := (sL10LeftG (siz a + 1)) a b
noncomputable def sL10LeftFS : Fsp := ⟨90, [shT .expr, shF .int], [shF .int], true, false, fun x => sL10Left x.1 x.2⟩
noncomputable def sL10LeftFSN (n : Nat) : Fsp := ⟨90, [shT .expr, shF .int], [shF .int], true, false, fun x => (sL10LeftG n) x.1 x.2⟩
noncomputable def sNestingOfB (rsNestingOf : GExpr → Option (Int)) (a : GExpr) : Option (Int) :=
  loopD (fun (x1 : Int × Int × Str × (List GExpr) × Int × Int) =>
    bif (decide (x1.2.2.2.2.2 < (x1.2.2.2.1.length : Int))) then
      (idx x1.2.2.2.1 x1.2.2.2.2.2).bind fun e2 =>
      (rsNestingOf (reExpr e2)).bind fun r3 =>
      (sL1Max x1.2.2.2.2.1 r3).bind fun r4 =>
      some (.inl (x1.1, x1.2.1, x1.2.2.1, x1.2.2.2.1, r4, w64 (x1.2.2.2.2.2 + 1)))
    else
      some (.inr (w64 (x1.2.2.2.2.1 + 1)))
  ) (a.kind, a.n, a.text, a.args, 0, 0)
noncomputable def sNestingOfG : Nat → (GExpr → Option (Int))
  | 0 => fun _ => none
  | n + 1 => sNestingOfB (sNestingOfG n)
noncomputable def sNestingOf (a : GExpr) : Option (Int) := (sNestingOfG (siz a + 1)) a
noncomputable def sNestingOfFS : Fsp := ⟨91, [shT .expr], [shF .int], true, false, fun x => sNestingOf x⟩
noncomputable def sNestingOfFSN (n : Nat) : Fsp := ⟨91, [shT .expr], [shF .int], true, false, fun x => (sNestingOfG n) x⟩
noncomputable def sIsValidText (a : Str) : Option (Bool) :=
  loopD (fun (x1 : Str × Int) =>
    bif (decide (x1.2 < (x1.1.length : Int))) then
      (idx x1.1 x1.2).bind fun c2 =>
      bif (decide ((c2.toNat : Int) < 32)) then
        some (.inr (false))
      else
        (idx x1.1 x1.2).bind fun c3 =>
        bif (decide ((c3.toNat : Int) > 126)) then
          some (.inr (false))
        else
          (idx x1.1 x1.2).bind fun c4 =>
          bif ((c4.toNat : Int) == 34) then
            some (.inr (false))
          else
            some (.inl (x1.1, w64 (x1.2 + 1)))
    else
      some (.inr ((decide ((x1.1.length : Int) ≤ 20))))
  ) (a, 0)
noncomputable def sIsValidTextFS : Fsp := ⟨98, [shF .str], [shF .bool], true, false, fun x => sIsValidText x⟩
noncomputable def sL2Shape (a : Str) : Option (Bool) :=
  loopD (fun (x1 : Str × Int) =>
    bif (decide (x1.2 < (x1.1.length : Int))) then
      (idx x1.1 x1.2).bind fun c2 =>
      bif (decide ((c2.toNat : Int) ≥ 97)) then
        (idx x1.1 x1.2).bind fun c3 =>
        (idx x1.1 x1.2).bind fun c4 =>
        bif (decide ((c4.toNat : Int) ≥ 48)) then
          (idx x1.1 x1.2).bind fun c5 =>
          bif (!(decide ((c3.toNat : Int) ≤ 122))) then
            bif (x1.2 == 0) then
              some (.inr (false))
            else
              bif (!(decide ((c5.toNat : Int) ≤ 57))) then
                some (.inr (false))
              else
                some (.inl (x1.1, w64 (x1.2 + 1)))
          else
            some (.inl (x1.1, w64 (x1.2 + 1)))
        else
          bif (!(decide ((c3.toNat : Int) ≤ 122))) then
            bif (x1.2 == 0) then
              some (.inr (false))
            else
              some (.inr (false))
          else
            some (.inl (x1.1, w64 (x1.2 + 1)))
      else
      (idx x1.1 x1.2).bind fun c6 =>
      bif (decide ((c6.toNat : Int) ≥ 48)) then
        (idx x1.1 x1.2).bind fun c7 =>
        bif (x1.2 == 0) then
          some (.inr (false))
        else
          bif (!(decide ((c7.toNat : Int) ≤ 57))) then
            some (.inr (false))
          else
            some (.inl (x1.1, w64 (x1.2 + 1)))
      else
        bif (x1.2 == 0) then
          some (.inr (false))
        else
          some (.inr (false))
    else
      some (.inr ((decide ((x1.1.length : Int) > 0))))
  ) (a, 0)
noncomputable def sL2ShapeFS : Fsp := ⟨101, [shF .str], [shF .bool], true, false, fun x => sL2Shape x⟩
noncomputable def sL1Has (a : List Str) (b : Str) : Option (Bool) :=
  loopD (fun (x1 : (List Str) × Str × Int) =>
    bif (decide (x1.2.2 < (x1.1.length : Int))) then
      (idx x1.1 x1.2.2).bind fun e2 =>
      bif (e2 == x1.2.1) then
        some (.inr (true))
      else
        some (.inl (x1.1, x1.2.1, w64 (x1.2.2 + 1)))
    else
      some (.inr (false))
  ) (a, b, 0)
noncomputable def sL1HasFS : Fsp := ⟨103, [slF .str, shF .str], [shF .bool], true, false, fun x => sL1Has x.1 x.2⟩
noncomputable def sL2Reserved : Option ((List Str)) :=
  some (([[108, 101, 116], [105, 110], [105, 102], [116, 104, 101, 110], [101, 108, 115, 101], [102, 111, 114], [100, 111], [108, 101, 110], [115, 117, 109], [116, 97, 107, 101], [115, 107, 105, 112], [114, 97, 110, 103, 101], [110, 116, 104], [119, 104, 101, 114, 101], [107, 101, 101, 112], [97, 100, 100], [103, 114, 111, 117, 112], [106, 111, 105, 110], [99, 111, 108, 117, 109, 110], [114, 111, 119, 115], [99, 108, 111, 99, 107], [99, 104, 97, 110, 99, 101], [102, 105, 108, 101], [116, 97, 98, 108, 101]] : List Str))
noncomputable def sL2ReservedFS : Fsp := ⟨104, [], [slF .str], true, false, fun x => sL2Reserved⟩
noncomputable def sIsReserved (a : Str) : Option (Bool) :=
  (sL2Reserved).bind fun r1 =>
  (sL1Has r1 a).bind fun r2 =>
  some (r2)
noncomputable def sIsReservedFS : Fsp := ⟨102, [shF .str], [shF .bool], true, false, fun x => sIsReserved x⟩
noncomputable def sIsValidName (a : Str) : Option (Bool) :=
  (sL2Shape a).bind fun r1 =>
  bif r1 then
    bif (decide ((a.length : Int) ≤ 8)) then
      (sIsReserved a).bind fun r2 =>
      some ((!r2))
    else
      some (false)
  else
    some (false)
noncomputable def sIsValidNameFS : Fsp := ⟨99, [shF .str], [shF .bool], true, false, fun x => sIsValidName x⟩
noncomputable def sArgumentCount (a : Str) : Option (Int) :=
  bif (a == [99, 108, 111, 99, 107]) then
    some (0)
  else
  bif (a == [108, 101, 110]) then
    some (1)
  else
  bif (a == [115, 117, 109]) then
    some (1)
  else
  bif (a == [114, 111, 119, 115]) then
    some (1)
  else
  bif (a == [99, 104, 97, 110, 99, 101]) then
    some (1)
  else
  bif (a == [102, 105, 108, 101]) then
    some (1)
  else
  bif (a == [116, 97, 107, 101]) then
    some (2)
  else
  bif (a == [115, 107, 105, 112]) then
    some (2)
  else
  bif (a == [114, 97, 110, 103, 101]) then
    some (2)
  else
  bif (a == [110, 116, 104]) then
    some (2)
  else
  bif (a == [107, 101, 101, 112]) then
    some (2)
  else
  bif (a == [99, 111, 108, 117, 109, 110]) then
    some (2)
  else
  bif (a == [116, 97, 98, 108, 101]) then
    some (2)
  else
  bif (a == [119, 104, 101, 114, 101]) then
    some (3)
  else
    bif (a == [103, 114, 111, 117, 112]) then
      some (3)
    else
      bif (a == [106, 111, 105, 110]) then
        some (3)
      else
        bif (a == [97, 100, 100]) then
          some (4)
        else
          some ((-1))
noncomputable def sArgumentCountFS : Fsp := ⟨100, [shF .str], [shF .int], true, false, fun x => sArgumentCount x⟩
noncomputable def sL10Node (a : GExpr) : Option (Bool) :=
  bif (a.kind == 1) then
    bif ((a.args.length : Int) == 0) then
      bif (a.text == []) then
        (sL1In a.n 0 1000000000).bind fun r1 =>
        some (r1)
      else
        some (false)
    else
      some (false)
  else
  bif (a.kind == 2) then
    bif ((a.args.length : Int) == 0) then
      bif (a.n == 0) then
        (sIsValidText a.text).bind fun r2 =>
        some (r2)
      else
        some (false)
    else
      some (false)
  else
  bif (a.kind == 3) then
    bif ((a.args.length : Int) == 0) then
      bif (a.n == 0) then
        (sIsValidName a.text).bind fun r3 =>
        some (r3)
      else
        some (false)
    else
      some (false)
  else
  bif (a.kind == 4) then
    bif (a.n == 0) then
      bif (a.text == []) then
        some ((decide ((a.args.length : Int) ≤ 8)))
      else
        some (false)
    else
      some (false)
  else
  bif (a.kind == 5) then
    bif (a.n == 0) then
      (sArgumentCount a.text).bind fun r4 =>
      some (((a.args.length : Int) == r4))
    else
      some (false)
  else
  bif (a.kind == 6) then
    bif (a.text == []) then
      bif ((a.args.length : Int) == 2) then
        (sL1In a.n 1 5).bind fun r5 =>
        some (r5)
      else
        some (false)
    else
      some (false)
  else
  bif (a.kind == 7) then
    bif (a.n == 0) then
      bif ((a.args.length : Int) == 2) then
        (sIsValidName a.text).bind fun r6 =>
        some (r6)
      else
        some (false)
    else
      some (false)
  else
  bif (a.kind == 9) then
    bif (a.n == 0) then
      bif ((a.args.length : Int) == 2) then
        (sIsValidName a.text).bind fun r7 =>
        some (r7)
      else
        some (false)
    else
      some (false)
  else
    bif (a.kind == 8) then
      bif (a.n == 0) then
        bif (a.text == []) then
          some (((a.args.length : Int) == 3))
        else
          some (false)
      else
        some (false)
    else
      some (false)
noncomputable def sL10NodeFS : Fsp := ⟨97, [shT .expr], [shF .bool], true, false, fun x => sL10Node x⟩
noncomputable def sL10AllB (rsL10All : GExpr → Option (Bool)) (a : GExpr) : Option (Bool) :=
  loopD (fun (x1 : Int × Int × Str × (List GExpr) × Int) =>
    bif (decide (x1.2.2.2.2 < (x1.2.2.2.1.length : Int))) then
      (idx x1.2.2.2.1 x1.2.2.2.2).bind fun e2 =>
      (rsL10All (reExpr e2)).bind fun r3 =>
      bif (!r3) then
        some (.inr (false))
      else
        some (.inl (x1.1, x1.2.1, x1.2.2.1, x1.2.2.2.1, w64 (x1.2.2.2.2 + 1)))
    else
      (
        (sL10Node (GExpr.mk x1.1 x1.2.1 x1.2.2.1 x1.2.2.2.1)).bind fun r4 =>
        some (r4)
      ).bind fun r => some (.inr r)
  ) (a.kind, a.n, a.text, a.args, 0)
noncomputable def sL10AllG : Nat → (GExpr → Option (Bool))
  | 0 => fun _ => none
  | n + 1 => sL10AllB (sL10AllG n)
noncomputable def sL10All (a : GExpr) : Option (Bool) := (sL10AllG (siz a + 1)) a
noncomputable def sL10AllFS : Fsp := ⟨92, [shT .expr], [shF .bool], true, false, fun x => sL10All x⟩
noncomputable def sL10AllFSN (n : Nat) : Fsp := ⟨92, [shT .expr], [shF .bool], true, false, fun x => (sL10AllG n) x⟩
noncomputable def sIsValidExpr (a : GExpr) : Option (Bool) :=
  (sL10Left (reExpr a) 40).bind fun r1 =>
  bif (decide (r1 ≥ 0)) then
    (sNestingOf (reExpr a)).bind fun r2 =>
    bif (decide (r2 ≤ 8)) then
      (sL10All (reExpr a)).bind fun r3 =>
      some (r3)
    else
      some (false)
  else
    some (false)
noncomputable def sIsValidExprFS : Fsp := ⟨87, [shT .expr], [shF .bool], true, false, fun x => sIsValidExpr x⟩
noncomputable def sJoin (a : List Str) (b : Str) : Option (Str) :=
  loopD (fun (x1 : (List Str) × Str × (List Int) × Int) =>
    bif (decide (x1.2.2.2 < (x1.1.length : Int))) then
      bif (decide (x1.2.2.2 > 0)) then
        (gd (x1.2.2.1.length + (octs x1.2.1).length)).bind fun _ =>
        (idx x1.1 x1.2.2.2).bind fun e2 =>
        (gd ((x1.2.2.1 ++ (octs x1.2.1)).length + (octs e2).length)).bind fun _ =>
        some (.inl (x1.1, x1.2.1, (x1.2.2.1 ++ (octs x1.2.1)) ++ (octs e2), w64 (x1.2.2.2 + 1)))
      else
        (idx x1.1 x1.2.2.2).bind fun e3 =>
        (gd (x1.2.2.1.length + (octs e3).length)).bind fun _ =>
        some (.inl (x1.1, x1.2.1, x1.2.2.1 ++ (octs e3), w64 (x1.2.2.2 + 1)))
    else
      some (.inr (bytesOf x1.2.2.1))
  ) (a, b, [], 0)
noncomputable def sJoinFS : Fsp := ⟨77, [slF .str, shF .str], [shF .str], true, false, fun x => sJoin x.1 x.2⟩
noncomputable def sLevelOf (a : GExpr) : Option (Int) :=
  bif (a.kind == 7) then
    some (0)
  else
  bif (a.kind == 8) then
    some (0)
  else
  bif (a.kind == 9) then
    some (0)
  else
  bif (a.kind == 6) then
    bif (a.n == 4) then
      some (1)
    else
    bif (a.n == 5) then
      some (1)
    else
      bif (a.n == 1) then
        some (2)
      else
        bif (a.n == 2) then
          some (2)
        else
          bif (a.n == 3) then
            some (3)
          else
            some (4)
  else
    some (4)
noncomputable def sLevelOfFS : Fsp := ⟨94, [shT .expr], [shF .int], true, false, fun x => sLevelOf x⟩
noncomputable def sOpSymbol (a : Int) : Option (Str) :=
  (sL1In a 1 5).bind fun r1 =>
  bif (!r1) then
    some ([63])
  else
    (idx ([[], [43], [45], [42], [60], [61, 61]] : List Str) a).bind fun _ =>
    (([[], [43], [45], [42], [60], [61, 61]] : List Str)[a.toNat]?).bind fun e3 =>
    some (e3)
noncomputable def sOpSymbolFS : Fsp := ⟨96, [shF .int], [shF .str], true, false, fun x => sOpSymbol x⟩
noncomputable def sL12TextB (rsL12Text : GExpr → Option (Str)) (rsL12List : (List GExpr) → Option (Str)) (rsL12At : GExpr → Int → Option (Str)) (a : GExpr) : Option (Str) :=
  bif (a.kind == 1) then
    (sFormatInt a.n).bind fun r1 =>
    some (r1)
  else
  bif (a.kind == 2) then
    (gd ([34].length + a.text.length)).bind fun _ =>
    (gd (([34] ++ a.text).length + [34].length)).bind fun _ =>
    some (([34] ++ a.text) ++ [34])
  else
  bif (a.kind == 3) then
    some (a.text)
  else
  bif (a.kind == 4) then
    (rsL12List a.args).bind fun r2 =>
    (gd ([91].length + r2.length)).bind fun _ =>
    (gd (([91] ++ r2).length + [93].length)).bind fun _ =>
    some (([91] ++ r2) ++ [93])
  else
  bif (a.kind == 5) then
    (gd (a.text.length + [40].length)).bind fun _ =>
    (rsL12List a.args).bind fun r3 =>
    (gd ((a.text ++ [40]).length + r3.length)).bind fun _ =>
    (gd (((a.text ++ [40]) ++ r3).length + [41].length)).bind fun _ =>
    some (((a.text ++ [40]) ++ r3) ++ [41])
  else
  bif (a.kind == 7) then
    (gd ([108, 101, 116, 32].length + a.text.length)).bind fun _ =>
    (gd (([108, 101, 116, 32] ++ a.text).length + [32, 61, 32].length)).bind fun _ =>
    (idx a.args 0).bind fun e4 =>
    (rsL12Text (reExpr e4)).bind fun r5 =>
    (gd ((([108, 101, 116, 32] ++ a.text) ++ [32, 61, 32]).length + r5.length)).bind fun _ =>
    (gd (((([108, 101, 116, 32] ++ a.text) ++ [32, 61, 32]) ++ r5).length + [32, 105, 110, 32].length)).bind fun _ =>
    (idx a.args 1).bind fun e6 =>
    (rsL12Text (reExpr e6)).bind fun r7 =>
    (gd ((((([108, 101, 116, 32] ++ a.text) ++ [32, 61, 32]) ++ r5) ++ [32, 105, 110, 32]).length + r7.length)).bind fun _ =>
    some ((((([108, 101, 116, 32] ++ a.text) ++ [32, 61, 32]) ++ r5) ++ [32, 105, 110, 32]) ++ r7)
  else
  bif (a.kind == 9) then
    (gd ([102, 111, 114, 32].length + a.text.length)).bind fun _ =>
    (gd (([102, 111, 114, 32] ++ a.text).length + [32, 105, 110, 32].length)).bind fun _ =>
    (idx a.args 0).bind fun e8 =>
    (rsL12Text (reExpr e8)).bind fun r9 =>
    (gd ((([102, 111, 114, 32] ++ a.text) ++ [32, 105, 110, 32]).length + r9.length)).bind fun _ =>
    (gd (((([102, 111, 114, 32] ++ a.text) ++ [32, 105, 110, 32]) ++ r9).length + [32, 100, 111, 32].length)).bind fun _ =>
    (idx a.args 1).bind fun e10 =>
    (rsL12Text (reExpr e10)).bind fun r11 =>
    (gd ((((([102, 111, 114, 32] ++ a.text) ++ [32, 105, 110, 32]) ++ r9) ++ [32, 100, 111, 32]).length + r11.length)).bind fun _ =>
    some ((((([102, 111, 114, 32] ++ a.text) ++ [32, 105, 110, 32]) ++ r9) ++ [32, 100, 111, 32]) ++ r11)
  else
  bif (a.kind == 8) then
    (idx a.args 0).bind fun e12 =>
    (rsL12Text (reExpr e12)).bind fun r13 =>
    (gd ([105, 102, 32].length + r13.length)).bind fun _ =>
    (gd (([105, 102, 32] ++ r13).length + [32, 116, 104, 101, 110, 32].length)).bind fun _ =>
    (idx a.args 1).bind fun e14 =>
    (rsL12Text (reExpr e14)).bind fun r15 =>
    (gd ((([105, 102, 32] ++ r13) ++ [32, 116, 104, 101, 110, 32]).length + r15.length)).bind fun _ =>
    (gd (((([105, 102, 32] ++ r13) ++ [32, 116, 104, 101, 110, 32]) ++ r15).length + [32, 101, 108, 115, 101, 32].length)).bind fun _ =>
    (idx a.args 2).bind fun e16 =>
    (rsL12Text (reExpr e16)).bind fun r17 =>
    (gd ((((([105, 102, 32] ++ r13) ++ [32, 116, 104, 101, 110, 32]) ++ r15) ++ [32, 101, 108, 115, 101, 32]).length + r17.length)).bind fun _ =>
    some ((((([105, 102, 32] ++ r13) ++ [32, 116, 104, 101, 110, 32]) ++ r15) ++ [32, 101, 108, 115, 101, 32]) ++ r17)
  else
  (sLevelOf (reExpr a)).bind fun r18 =>
  bif (r18 == 1) then
    (idx a.args 0).bind fun e19 =>
    (rsL12At (reExpr e19) 2).bind fun r20 =>
    (gd (r20.length + [32].length)).bind fun _ =>
    (sOpSymbol a.n).bind fun r21 =>
    (gd ((r20 ++ [32]).length + r21.length)).bind fun _ =>
    (gd (((r20 ++ [32]) ++ r21).length + [32].length)).bind fun _ =>
    (idx a.args 1).bind fun e22 =>
    (rsL12At (reExpr e22) (w64 (r18 + 1))).bind fun r23 =>
    (gd ((((r20 ++ [32]) ++ r21) ++ [32]).length + r23.length)).bind fun _ =>
    some ((((r20 ++ [32]) ++ r21) ++ [32]) ++ r23)
  else
  (idx a.args 0).bind fun e24 =>
  (rsL12At (reExpr e24) r18).bind fun r25 =>
  (gd (r25.length + [32].length)).bind fun _ =>
  (sOpSymbol a.n).bind fun r26 =>
  (gd ((r25 ++ [32]).length + r26.length)).bind fun _ =>
  (gd (((r25 ++ [32]) ++ r26).length + [32].length)).bind fun _ =>
  (idx a.args 1).bind fun e27 =>
  (rsL12At (reExpr e27) (w64 (r18 + 1))).bind fun r28 =>
  (gd ((((r25 ++ [32]) ++ r26) ++ [32]).length + r28.length)).bind fun _ =>
  some ((((r25 ++ [32]) ++ r26) ++ [32]) ++ r28)
noncomputable def sL12ListB (rsL12Text : GExpr → Option (Str)) (rsL12List : (List GExpr) → Option (Str)) (rsL12At : GExpr → Int → Option (Str)) (a : List GExpr) : Option (Str) :=
  loopD (fun (x1 : (List GExpr) × (List Str) × Int) =>
    bif (decide (x1.2.2 < (x1.1.length : Int))) then
      (idx x1.1 x1.2.2).bind fun e2 =>
      (rsL12Text (reExpr e2)).bind fun r3 =>
      (gd (x1.2.1.length + ([r3] : List Str).length)).bind fun _ =>
      some (.inl (x1.1, x1.2.1 ++ ([r3] : List Str), w64 (x1.2.2 + 1)))
    else
      (
        (sJoin x1.2.1 [44, 32]).bind fun r4 =>
        some (r4)
      ).bind fun r => some (.inr r)
  ) (a, [], 0)
noncomputable def sL12AtB (rsL12Text : GExpr → Option (Str)) (rsL12List : (List GExpr) → Option (Str)) (rsL12At : GExpr → Int → Option (Str)) (a : GExpr) (b : Int) : Option (Str) :=
  (rsL12Text (reExpr a)).bind fun r1 =>
  (sLevelOf (reExpr a)).bind fun r2 =>
  bif (decide (r2 < b)) then
    (gd ([40].length + r1.length)).bind fun _ =>
    (gd (([40] ++ r1).length + [41].length)).bind fun _ =>
    some (([40] ++ r1) ++ [41])
  else
    some (r1)
noncomputable def sL12TextG : Nat → (GExpr → Option (Str)) × ((List GExpr) → Option (Str)) × (GExpr → Int → Option (Str))
  | 0 => (fun _ => none, fun _ => none, fun _ _ => none)
  | n + 1 => (sL12TextB (sL12TextG n).1 (sL12TextG n).2.1 (sL12TextG n).2.2, sL12ListB (sL12TextG n).1 (sL12TextG n).2.1 (sL12TextG n).2.2, sL12AtB (sL12TextG n).1 (sL12TextG n).2.1 (sL12TextG n).2.2)
noncomputable def sL12Text (a : GExpr) : Option (Str) := (sL12TextG (siz a + 1)).1 a
noncomputable def sL12TextFS : Fsp := ⟨88, [shT .expr], [shF .str], true, false, fun x => sL12Text x⟩
noncomputable def sL12TextFSN (n : Nat) : Fsp := ⟨88, [shT .expr], [shF .str], true, false, fun x => (sL12TextG n).1 x⟩
noncomputable def sL12List (a : List GExpr) : Option (Str) := (sL12TextG (siz a + 1)).2.1 a
noncomputable def sL12ListFS : Fsp := ⟨93, [slF .expr], [shF .str], true, false, fun x => sL12List x⟩
noncomputable def sL12ListFSN (n : Nat) : Fsp := ⟨93, [slF .expr], [shF .str], true, false, fun x => (sL12TextG n).2.1 x⟩
noncomputable def sL12At (a : GExpr) (b : Int) : Option (Str) := (sL12TextG (siz a + 1)).2.2 a b
noncomputable def sL12AtFS : Fsp := ⟨95, [shT .expr, shF .int], [shF .str], true, false, fun x => sL12At x.1 x.2⟩
noncomputable def sL12AtFSN (n : Nat) : Fsp := ⟨95, [shT .expr, shF .int], [shF .str], true, false, fun x => (sL12TextG n).2.2 x.1 x.2⟩
noncomputable def sFormatExpr (a : GExpr) : Option (Str) :=
  (sIsValidExpr (reExpr a)).bind fun r1 =>
  bif (!r1) then
    some ([])
  else
    (sL12Text (reExpr a)).bind fun r2 =>
    some (r2)
noncomputable def sFormatExprFS : Fsp := ⟨74, [shT .expr], [shF .str], true, false, fun x => sFormatExpr x⟩
noncomputable def sL17Expr (a : GCur) : Option (GCur × Str) :=
  (sL1Below a 9).bind fun r1 =>
  bif (r1.2 == 0) then
    (sL1Pick r1.1 ([[97], [98], [99], [100], [101]] : List Str)).bind fun r2 =>
    (gd (r2.2.length + [32, 43, 32].length)).bind fun _ =>
    (sL1Pick r2.1 ([[97], [98], [99], [100], [101]] : List Str)).bind fun r3 =>
    (gd ((r2.2 ++ [32, 43, 32]).length + r3.2.length)).bind fun _ =>
    some (r3.1, (r2.2 ++ [32, 43, 32]) ++ r3.2)
  else
  bif (r1.2 == 1) then
    (sL1Pick r1.1 ([[97], [98], [99], [100], [101]] : List Str)).bind fun r4 =>
    (gd (r4.2.length + [32, 43, 32].length)).bind fun _ =>
    (sL1Pick r4.1 ([[97], [98], [99], [100], [101]] : List Str)).bind fun r5 =>
    (gd ((r4.2 ++ [32, 43, 32]).length + r5.2.length)).bind fun _ =>
    some (r5.1, (r4.2 ++ [32, 43, 32]) ++ r5.2)
  else
  bif (r1.2 == 2) then
    (sL1Pick r1.1 ([[97], [98], [99], [100], [101]] : List Str)).bind fun r6 =>
    (gd ([108, 101, 110, 40, 34, 97, 98, 34, 41, 32, 42, 32].length + r6.2.length)).bind fun _ =>
    some (r6.1, [108, 101, 110, 40, 34, 97, 98, 34, 41, 32, 42, 32] ++ r6.2)
  else
  bif (r1.2 == 3) then
    (sL1Below r1.1 3).bind fun r7 =>
    (sFormatInt r7.2).bind fun r8 =>
    (gd ([119, 104, 101, 114, 101, 40, 34, 97, 34, 44, 32].length + r8.length)).bind fun _ =>
    (gd (([119, 104, 101, 114, 101, 40, 34, 97, 34, 44, 32] ++ r8).length + [44, 32].length)).bind fun _ =>
    (sL1Pick r7.1 ([[97], [98], [99], [100], [101]] : List Str)).bind fun r9 =>
    (gd ((([119, 104, 101, 114, 101, 40, 34, 97, 34, 44, 32] ++ r8) ++ [44, 32]).length + r9.2.length)).bind fun _ =>
    (gd (((([119, 104, 101, 114, 101, 40, 34, 97, 34, 44, 32] ++ r8) ++ [44, 32]) ++ r9.2).length + [41].length)).bind fun _ =>
    some (r9.1, ((([119, 104, 101, 114, 101, 40, 34, 97, 34, 44, 32] ++ r8) ++ [44, 32]) ++ r9.2) ++ [41])
  else
  bif (r1.2 == 4) then
    (sL1Pick r1.1 ([[97], [98], [99], [100], [101]] : List Str)).bind fun r10 =>
    (gd ([103, 114, 111, 117, 112, 40, 34, 97, 34, 44, 32, 34, 98, 34, 44, 32].length + r10.2.length)).bind fun _ =>
    (gd (([103, 114, 111, 117, 112, 40, 34, 97, 34, 44, 32, 34, 98, 34, 44, 32] ++ r10.2).length + [41].length)).bind fun _ =>
    some (r10.1, ([103, 114, 111, 117, 112, 40, 34, 97, 34, 44, 32, 34, 98, 34, 44, 32] ++ r10.2) ++ [41])
  else
  bif (r1.2 == 5) then
    (sL1Pick r1.1 ([[99, 108, 111, 99, 107, 40, 41], [99, 104, 97, 110, 99, 101, 40, 54, 41], [102, 105, 108, 101, 40, 34, 102, 34, 41], [99, 104, 97, 110, 99, 101, 40, 51, 41, 32, 43, 32, 99, 104, 97, 110, 99, 101, 40, 51, 41], [99, 108, 111, 99, 107, 40, 41, 32, 43, 32, 97]] : List Str)).bind fun r11 =>
    some (r11.1, r11.2)
  else
  bif (r1.2 == 6) then
    (sL1Pick r1.1 ([[49, 32, 43], [108, 101, 116, 32, 120, 32, 61, 32, 105, 110, 32, 50], [115, 117, 109, 40, 91, 49, 44, 32, 50, 93], [55], [105, 102, 32, 97, 32, 60, 32, 51, 32, 116, 104, 101, 110, 32, 98, 32, 101, 108, 115, 101, 32, 99], [102, 111, 114, 32, 117, 32, 105, 110, 32, 91, 49, 44, 32, 50, 44, 32, 51, 93, 32, 100, 111, 32, 117, 32, 42, 32, 97], [106, 111, 105, 110, 40, 34, 97, 34, 44, 32, 100, 44, 32, 101, 41], [115, 117, 109, 40, 99, 111, 108, 117, 109, 110, 40, 34, 98, 34, 44, 32, 100, 41, 41], [108, 101, 116, 32, 97, 32, 61, 32, 52, 32, 105, 110, 32, 97, 32, 43, 32, 98]] : List Str)).bind fun r12 =>
    some (r12.1, r12.2)
  else
    (sL10Make r1.1 ([[97], [98], [99], [100], [101]] : List Str) 2).bind fun r13 =>
    (sFormatExpr (reExpr r13.2)).bind fun r14 =>
    bif (decide ((r14.length : Int) > 120)) then
      some (r13.1, [49])
    else
      some (r13.1, r14)
noncomputable def sL17ExprFS : Fsp := ⟨61, [shT .cur], [shT .cur, shF .str], false, false, fun x => sL17Expr x⟩
noncomputable def sSplitByte (a : Str) (b : Int) : Option ((List Str)) :=
  loopD (fun (x1 : Str × Int × (List Str) × Int × Int) =>
    bif (decide (x1.2.2.2.2 ≤ (x1.1.length : Int))) then
      bif (x1.2.2.2.2 == (x1.1.length : Int)) then
        (eff.cutL x1.1 (some x1.2.2.2.1) (some x1.2.2.2.2)).bind fun r2 =>
        (gd (x1.2.2.1.length + ([r2] : List Str).length)).bind fun _ =>
        some (.inl (x1.1, x1.2.1, x1.2.2.1 ++ ([r2] : List Str), w64 (x1.2.2.2.2 + 1), w64 (x1.2.2.2.2 + 1)))
      else
        (idx x1.1 x1.2.2.2.2).bind fun c3 =>
        bif ((c3.toNat : Int) == x1.2.1) then
          (eff.cutL x1.1 (some x1.2.2.2.1) (some x1.2.2.2.2)).bind fun r4 =>
          (gd (x1.2.2.1.length + ([r4] : List Str).length)).bind fun _ =>
          some (.inl (x1.1, x1.2.1, x1.2.2.1 ++ ([r4] : List Str), w64 (x1.2.2.2.2 + 1), w64 (x1.2.2.2.2 + 1)))
        else
          some (.inl (x1.1, x1.2.1, x1.2.2.1, x1.2.2.2.1, w64 (x1.2.2.2.2 + 1)))
    else
      some (.inr (x1.2.2.1))
  ) (a, b, [], 0, 0)
noncomputable def sSplitByteFS : Fsp := ⟨76, [shF .str, shF .u8], [slF .str], true, false, fun x => sSplitByte x.1 x.2⟩
noncomputable def sL1Turned (a : GCur) (b : Str) (c : List Str) : Option (GCur × Str) :=
  (sL1Below a (w64 ((b.length : Int) + 1))).bind fun r1 =>
  (sL1Below r1.1 6).bind fun r2 =>
  bif (r2.2 == 0) then
    (eff.cutL b none (some r1.2)).bind fun r3 =>
    (sL1Pick r2.1 c).bind fun r4 =>
    (gd (r3.length + r4.2.length)).bind fun _ =>
    (eff.cutL b (some r1.2) none).bind fun r5 =>
    (gd ((r3 ++ r4.2).length + r5.length)).bind fun _ =>
    some (r4.1, (r3 ++ r4.2) ++ r5)
  else
    bif (r2.2 == 1) then
      (eff.cutL b none (some r1.2)).bind fun r6 =>
      some (r2.1, r6)
    else
      some (r2.1, b)
noncomputable def sL1TurnedFS : Fsp := ⟨78, [shT .cur, shF .str, slF .str], [shT .cur, shF .str], false, false, fun x => sL1Turned x.1 x.2.1 x.2.2⟩
noncomputable def sL17Data (a : GCur) : Option (GCur × Str) :=
  (sL1Pick a ([[97, 32, 98], [97, 32, 98], [97, 32, 98], [97, 32, 99], [98], [97, 32, 98, 32, 99]] : List Str)).bind fun r1 =>
  (sL1Below r1.1 4).bind fun r2 =>
  (sSplitByte r1.2 32).bind fun r3 =>
  loopD (fun (x4 : (List Int) × Int × Int × Str × Int × Int × Int) =>
    bif (decide (x4.2.2.2.2.2.2 < x4.2.2.2.2.1)) then
      loopD (fun (x5 : (List Int) × Int × Int × Str × Int × Int × Int × (List Str) × Int) =>
        bif (decide (x5.2.2.2.2.2.2.2.2 < x5.2.2.2.2.2.1)) then
          (sL1Below (GCur.mk x5.1 x5.2.1 x5.2.2.1) 4).bind fun r6 =>
          (sFormatInt r6.2).bind fun r7 =>
          (gd (x5.2.2.2.2.2.2.2.1.length + ([r7] : List Str).length)).bind fun _ =>
          some (.inl (r6.1.b, r6.1.i, r6.1.h, x5.2.2.2.1, x5.2.2.2.2.1, x5.2.2.2.2.2.1, x5.2.2.2.2.2.2.1, x5.2.2.2.2.2.2.2.1 ++ ([r7] : List Str), w64 (x5.2.2.2.2.2.2.2.2 + 1)))
        else
          (
            (gd (x5.2.2.2.1.length + [59, 32].length)).bind fun _ =>
            (sJoin x5.2.2.2.2.2.2.2.1 [32]).bind fun r8 =>
            (gd ((x5.2.2.2.1 ++ [59, 32]).length + r8.length)).bind fun _ =>
            some (.inl (x5.1, x5.2.1, x5.2.2.1, (x5.2.2.2.1 ++ [59, 32]) ++ r8, x5.2.2.2.2.1, x5.2.2.2.2.2.1, w64 (x5.2.2.2.2.2.2.1 + 1)))
          ).bind fun r => some (.inr r)
      ) (x4.1, x4.2.1, x4.2.2.1, x4.2.2.2.1, x4.2.2.2.2.1, x4.2.2.2.2.2.1, x4.2.2.2.2.2.2, [], 0)
    else
      (
        (sL1Once (GCur.mk x4.1 x4.2.1 x4.2.2.1) 12).bind fun r9 =>
        bif r9.2 then
          (sL1Turned r9.1 x4.2.2.2.1 ([[59], [32], [120], [59, 32, 49], [45]] : List Str)).bind fun r10 =>
          some (r10.1, r10.2)
        else
          some (r9.1, x4.2.2.2.1)
      ).bind fun r => some (.inr r)
  ) (r2.1.b, r2.1.i, r2.1.h, r1.2, r2.2, (r3.length : Int), 0)
noncomputable def sL17DataFS : Fsp := ⟨71, [shT .cur], [shT .cur, shF .str], false, false, fun x => sL17Data x⟩
noncomputable def sL17Cell (a : GCur) (b : Int) : Option (GCur × GCell) :=
  (sL1Below a 3).bind fun r1 =>
  (sL1PickInt r1.1 [1, 2, 2, 2, 2, 3, 4, 4]).bind fun r2 =>
  (sL1Pick r2.1 ([[97], [98], [99], [100], [101]] : List Str)).bind fun r3 =>
  bif (r2.2 == 1) then
    (sL1Pick r3.1 ([[65, 32, 104, 101, 97, 100, 105, 110, 103], [], [115, 101, 101, 32, 34, 97, 34, 32, 97, 110, 100, 32, 98]] : List Str)).bind fun r4 =>
    some (r4.1, GCell.mk b (w64 (1 + r1.2)) r2.2 [] r4.2 0)
  else
  bif (r2.2 == 2) then
    (sL17Expr r3.1).bind fun r5 =>
    some (r5.1, GCell.mk b (w64 (1 + r1.2)) r2.2 r3.2 r5.2 0)
  else
    bif (r2.2 == 3) then
      (sL1Below r3.1 9).bind fun r6 =>
      some (r6.1, GCell.mk b (w64 (1 + r1.2)) r2.2 r3.2 [] r6.2)
    else
      bif (r2.2 == 4) then
        (sL17Data r3.1).bind fun r7 =>
        some (r7.1, GCell.mk b (w64 (1 + r1.2)) r2.2 r3.2 r7.2 0)
      else
        some (r3.1, GCell.mk b (w64 (1 + r1.2)) r2.2 r3.2 [] 0)
noncomputable def sL17CellFS : Fsp := ⟨60, [shT .cur, shF .int], [shT .cur, shT .cell], false, false, fun x => sL17Cell x.1 x.2⟩
noncomputable def sL41Edit (a : GCur) : Option (GCur × GEdit) :=
  (sL1PickInt a [1, 1, 1, 4, 4, 4, 3, 2, 5, 6]).bind fun r1 =>
  (sL1Below r1.1 4).bind fun r2 =>
  (sL1Below r2.1 5).bind fun r3 =>
  (sL17Cell r3.1 (w64 (1 + r3.2))).bind fun r4 =>
  (idx ([[], [97], [98], [99], [100], [101]] : List Str) r4.2.id).bind fun _ =>
  (([[], [97], [98], [99], [100], [101]] : List Str)[r4.2.id.toNat]?).bind fun e6 =>
  bif (r4.2.kind == 1) then
    (sL17Expr r4.1).bind fun r7 =>
    some (r7.1, GEdit.mk r1.2 r2.2 (GCell.mk r4.2.id r4.2.version 2 e6 r7.2 r4.2.n))
  else
    some (r4.1, GEdit.mk r1.2 r2.2 (GCell.mk r4.2.id r4.2.version r4.2.kind e6 r4.2.code r4.2.n))
noncomputable def sL41EditFS : Fsp := ⟨50, [shT .cur], [shT .cur, shT .edit], false, false, fun x => sL41Edit x⟩
noncomputable def sL14Read (a : GCur) : Option (GCur × GRead) :=
  (sL1Below a 3).bind fun r1 =>
  (sL1Below r1.1 7).bind fun r2 =>
  (sL1Pick r2.1 ([[102], [103], [104], [122]] : List Str)).bind fun r3 =>
  (sL1Below r3.1 3).bind fun r4 =>
  some (r4.1, GRead.mk (w64 (1 + r1.2)) r2.2 r4.2 r3.2 (GVal.mk 0 0 0 [] [] [] []))
noncomputable def sL14ReadFS : Fsp := ⟨62, [shT .cur], [shT .cur, shT .read], false, true, fun x => sL14Read x⟩
noncomputable def sNumberValue (a : Int) : Option (GVal) :=
  some (GVal.mk 1 a 0 [] [] [] [])
noncomputable def sNumberValueFS : Fsp := ⟨63, [shF .int], [shT .val], true, false, fun x => sNumberValue x⟩
noncomputable def sL16Tape (a : GCur) : Option (GCur × (List GRead)) :=
  (sL1Below a 4).bind fun r1 =>
  loopD (fun (x2 : (List Int) × Int × Int × (List GRead) × Int × Int) =>
    bif (decide (x2.2.2.2.2.2 < x2.2.2.2.2.1)) then
      (sL14Read (GCur.mk x2.1 x2.2.1 x2.2.2.1)).bind fun r3 =>
      bif (r3.2.kind != 2) then
        bif (r3.2.kind != 3) then
          (sNumberValue (w64 (50 + x2.2.2.2.2.2))).bind fun r4 =>
          (gd (x2.2.2.2.1.length + ([GRead.mk r3.2.kind 0 r3.2.time [] (reVal r4)]).length)).bind fun _ =>
          some (.inl (r3.1.b, r3.1.i, r3.1.h, x2.2.2.2.1 ++ ([GRead.mk r3.2.kind 0 r3.2.time [] (reVal r4)]), x2.2.2.2.2.1, w64 (x2.2.2.2.2.2 + 1)))
        else
          (sNumberValue (w64 (50 + x2.2.2.2.2.2))).bind fun r5 =>
          (gd (x2.2.2.2.1.length + [GRead.mk r3.2.kind 0 r3.2.time r3.2.text (reVal r5)].length)).bind fun _ =>
          some (.inl (r3.1.b, r3.1.i, r3.1.h, x2.2.2.2.1 ++ [GRead.mk r3.2.kind 0 r3.2.time r3.2.text (reVal r5)], x2.2.2.2.2.1, w64 (x2.2.2.2.2.2 + 1)))
      else
        bif (r3.2.kind != 3) then
          (sNumberValue (w64 (50 + x2.2.2.2.2.2))).bind fun r6 =>
          (gd (x2.2.2.2.1.length + ([GRead.mk r3.2.kind r3.2.n r3.2.time [] (reVal r6)]).length)).bind fun _ =>
          some (.inl (r3.1.b, r3.1.i, r3.1.h, x2.2.2.2.1 ++ ([GRead.mk r3.2.kind r3.2.n r3.2.time [] (reVal r6)]), x2.2.2.2.2.1, w64 (x2.2.2.2.2.2 + 1)))
        else
          (sNumberValue (w64 (50 + x2.2.2.2.2.2))).bind fun r7 =>
          (gd (x2.2.2.2.1.length + [GRead.mk r3.2.kind r3.2.n r3.2.time r3.2.text (reVal r7)].length)).bind fun _ =>
          some (.inl (r3.1.b, r3.1.i, r3.1.h, x2.2.2.2.1 ++ [GRead.mk r3.2.kind r3.2.n r3.2.time r3.2.text (reVal r7)], x2.2.2.2.2.1, w64 (x2.2.2.2.2.2 + 1)))
    else
      some (.inr (GCur.mk x2.1 x2.2.1 x2.2.2.1, x2.2.2.2.1))
  ) (r1.1.b, r1.1.i, r1.1.h, [], r1.2, 0)
noncomputable def sL16TapeFS : Fsp := ⟨52, [shT .cur], [shT .cur, slF .read], false, true, fun x => sL16Tape x⟩
noncomputable def sL41Make (a : GCur) (b : List GOp) (c : Int) : Option (GCur × GOp) :=
  (sLastTime b).bind fun r1 =>
  (sL1Below a 2).bind fun r2 =>
  (sL41Edit r2.1).bind fun r3 =>
  loopD (fun (x4 : (List Int) × Int × Int × (List GOp) × Int × Int × Int × (List Int) × Int × Int × Int × Int × Int × Str × Str × Int × Str × Str × Int × Int × (List GRead) × Int × Int × Int × (List Int) × Int × Int × Int × Int × Int × Str × Str × Int × Str × Str × Int × Int × (List GRead) × Int) =>
    bif (decide (x4.2.2.2.2.2.2.2.2.2.2.2.2.2.2.2.2.2.2.2.2.2.2.2.2.2.2.2.2.2.2.2.2.2.2.2.2.2.2 < 3)) then
      (sCountBy x4.2.2.2.1 x4.2.2.2.2.2.2.2.2.2.2.2.2.2.2.2.2.2.2.2.2.2.2.2.2.2.2.2.2.2.2.2.2.2.2.2.2.2.2).bind fun r5 =>
      (gd (x4.2.2.2.2.2.2.2.2.2.2.2.2.2.2.2.2.2.2.2.2.2.2.2.2.1.length + [r5].length)).bind fun _ =>
      some (.inl (x4.1, x4.2.1, x4.2.2.1, x4.2.2.2.1, x4.2.2.2.2.1, x4.2.2.2.2.2.1, x4.2.2.2.2.2.2.1, x4.2.2.2.2.2.2.2.1, x4.2.2.2.2.2.2.2.2.1, x4.2.2.2.2.2.2.2.2.2.1, x4.2.2.2.2.2.2.2.2.2.2.1, x4.2.2.2.2.2.2.2.2.2.2.2.1, x4.2.2.2.2.2.2.2.2.2.2.2.2.1, x4.2.2.2.2.2.2.2.2.2.2.2.2.2.1, x4.2.2.2.2.2.2.2.2.2.2.2.2.2.2.1, x4.2.2.2.2.2.2.2.2.2.2.2.2.2.2.2.1, x4.2.2.2.2.2.2.2.2.2.2.2.2.2.2.2.2.1, x4.2.2.2.2.2.2.2.2.2.2.2.2.2.2.2.2.2.1, x4.2.2.2.2.2.2.2.2.2.2.2.2.2.2.2.2.2.2.1, x4.2.2.2.2.2.2.2.2.2.2.2.2.2.2.2.2.2.2.2.1, x4.2.2.2.2.2.2.2.2.2.2.2.2.2.2.2.2.2.2.2.2.1, x4.2.2.2.2.2.2.2.2.2.2.2.2.2.2.2.2.2.2.2.2.2.1, x4.2.2.2.2.2.2.2.2.2.2.2.2.2.2.2.2.2.2.2.2.2.2.1, x4.2.2.2.2.2.2.2.2.2.2.2.2.2.2.2.2.2.2.2.2.2.2.2.1, x4.2.2.2.2.2.2.2.2.2.2.2.2.2.2.2.2.2.2.2.2.2.2.2.2.1 ++ [r5], x4.2.2.2.2.2.2.2.2.2.2.2.2.2.2.2.2.2.2.2.2.2.2.2.2.2.1, x4.2.2.2.2.2.2.2.2.2.2.2.2.2.2.2.2.2.2.2.2.2.2.2.2.2.2.1, x4.2.2.2.2.2.2.2.2.2.2.2.2.2.2.2.2.2.2.2.2.2.2.2.2.2.2.2.1, x4.2.2.2.2.2.2.2.2.2.2.2.2.2.2.2.2.2.2.2.2.2.2.2.2.2.2.2.2.1, x4.2.2.2.2.2.2.2.2.2.2.2.2.2.2.2.2.2.2.2.2.2.2.2.2.2.2.2.2.2.1, x4.2.2.2.2.2.2.2.2.2.2.2.2.2.2.2.2.2.2.2.2.2.2.2.2.2.2.2.2.2.2.1, x4.2.2.2.2.2.2.2.2.2.2.2.2.2.2.2.2.2.2.2.2.2.2.2.2.2.2.2.2.2.2.2.1, x4.2.2.2.2.2.2.2.2.2.2.2.2.2.2.2.2.2.2.2.2.2.2.2.2.2.2.2.2.2.2.2.2.1, x4.2.2.2.2.2.2.2.2.2.2.2.2.2.2.2.2.2.2.2.2.2.2.2.2.2.2.2.2.2.2.2.2.2.1, x4.2.2.2.2.2.2.2.2.2.2.2.2.2.2.2.2.2.2.2.2.2.2.2.2.2.2.2.2.2.2.2.2.2.2.1, x4.2.2.2.2.2.2.2.2.2.2.2.2.2.2.2.2.2.2.2.2.2.2.2.2.2.2.2.2.2.2.2.2.2.2.2.1, x4.2.2.2.2.2.2.2.2.2.2.2.2.2.2.2.2.2.2.2.2.2.2.2.2.2.2.2.2.2.2.2.2.2.2.2.2.1, x4.2.2.2.2.2.2.2.2.2.2.2.2.2.2.2.2.2.2.2.2.2.2.2.2.2.2.2.2.2.2.2.2.2.2.2.2.2.1, w64 (x4.2.2.2.2.2.2.2.2.2.2.2.2.2.2.2.2.2.2.2.2.2.2.2.2.2.2.2.2.2.2.2.2.2.2.2.2.2.2 + 1)))
    else
    (
      (sL1Below (GCur.mk x4.1 x4.2.1 x4.2.2.1) 8).bind fun r6 =>
      bif (r6.2 == 0) then
        (sL1Pick r6.1 ([[97], [98], [99]] : List Str)).bind fun r7 =>
        (sL1Pick r7.1 ([[120], [121], [116, 111, 116, 97, 108]] : List Str)).bind fun r8 =>
        some (r8.1, GOp.mk x4.2.2.2.2.2.2.2.2.2.2.2.2.2.2.2.2.2.2.2.2.2.1 x4.2.2.2.2.2.2.2.2.2.2.2.2.2.2.2.2.2.2.2.2.2.2.1 2 x4.2.2.2.2.2.2.2.2.2.2.2.2.2.2.2.2.2.2.2.2.2.2.2.2.1 (GEdit.mk 0 0 (GCell.mk 0 0 0 [] [] 0)) r7.2 r8.2 x4.2.2.2.2.2.2.2.2.2.2.2.2.2.2.2.2.2.2.2.2.2.2.2.2.2.2.2.2.2.2.2.2.2.2.2.1 x4.2.2.2.2.2.2.2.2.2.2.2.2.2.2.2.2.2.2.2.2.2.2.2.2.2.2.2.2.2.2.2.2.2.2.2.2.1 x4.2.2.2.2.2.2.2.2.2.2.2.2.2.2.2.2.2.2.2.2.2.2.2.2.2.2.2.2.2.2.2.2.2.2.2.2.2.1)
      else
      bif (r6.2 == 1) then
        (sL1Pick r6.1 ([[97], [98], [99]] : List Str)).bind fun r9 =>
        (sL1Pick r9.1 ([[120], [121], [116, 111, 116, 97, 108]] : List Str)).bind fun r10 =>
        some (r10.1, GOp.mk x4.2.2.2.2.2.2.2.2.2.2.2.2.2.2.2.2.2.2.2.2.2.1 x4.2.2.2.2.2.2.2.2.2.2.2.2.2.2.2.2.2.2.2.2.2.2.1 2 x4.2.2.2.2.2.2.2.2.2.2.2.2.2.2.2.2.2.2.2.2.2.2.2.2.1 (GEdit.mk 0 0 (GCell.mk 0 0 0 [] [] 0)) r9.2 r10.2 x4.2.2.2.2.2.2.2.2.2.2.2.2.2.2.2.2.2.2.2.2.2.2.2.2.2.2.2.2.2.2.2.2.2.2.2.1 x4.2.2.2.2.2.2.2.2.2.2.2.2.2.2.2.2.2.2.2.2.2.2.2.2.2.2.2.2.2.2.2.2.2.2.2.2.1 x4.2.2.2.2.2.2.2.2.2.2.2.2.2.2.2.2.2.2.2.2.2.2.2.2.2.2.2.2.2.2.2.2.2.2.2.2.2.1)
      else
        bif (r6.2 == 2) then
          (sL1Below r6.1 5).bind fun r11 =>
          (sL1Below r11.1 20).bind fun r12 =>
          (sL16Tape r12.1).bind fun r13 =>
          some (r13.1, GOp.mk x4.2.2.2.2.2.2.2.2.2.2.2.2.2.2.2.2.2.2.2.2.2.1 x4.2.2.2.2.2.2.2.2.2.2.2.2.2.2.2.2.2.2.2.2.2.2.1 3 x4.2.2.2.2.2.2.2.2.2.2.2.2.2.2.2.2.2.2.2.2.2.2.2.2.1 (GEdit.mk 0 0 (GCell.mk 0 0 0 [] [] 0)) x4.2.2.2.2.2.2.2.2.2.2.2.2.2.2.2.2.2.2.2.2.2.2.2.2.2.2.2.2.2.2.2.2.2.1 x4.2.2.2.2.2.2.2.2.2.2.2.2.2.2.2.2.2.2.2.2.2.2.2.2.2.2.2.2.2.2.2.2.2.2.1 (w64 (1 + r11.2)) (w64 (3 + r12.2)) r13.2)
        else
          some (r6.1, GOp.mk x4.2.2.2.2.2.2.2.2.2.2.2.2.2.2.2.2.2.2.2.2.2.1 x4.2.2.2.2.2.2.2.2.2.2.2.2.2.2.2.2.2.2.2.2.2.2.1 x4.2.2.2.2.2.2.2.2.2.2.2.2.2.2.2.2.2.2.2.2.2.2.2.1 x4.2.2.2.2.2.2.2.2.2.2.2.2.2.2.2.2.2.2.2.2.2.2.2.2.1 (GEdit.mk x4.2.2.2.2.2.2.2.2.2.2.2.2.2.2.2.2.2.2.2.2.2.2.2.2.2.1 x4.2.2.2.2.2.2.2.2.2.2.2.2.2.2.2.2.2.2.2.2.2.2.2.2.2.2.1 (GCell.mk x4.2.2.2.2.2.2.2.2.2.2.2.2.2.2.2.2.2.2.2.2.2.2.2.2.2.2.2.1 x4.2.2.2.2.2.2.2.2.2.2.2.2.2.2.2.2.2.2.2.2.2.2.2.2.2.2.2.2.1 x4.2.2.2.2.2.2.2.2.2.2.2.2.2.2.2.2.2.2.2.2.2.2.2.2.2.2.2.2.2.1 x4.2.2.2.2.2.2.2.2.2.2.2.2.2.2.2.2.2.2.2.2.2.2.2.2.2.2.2.2.2.2.1 x4.2.2.2.2.2.2.2.2.2.2.2.2.2.2.2.2.2.2.2.2.2.2.2.2.2.2.2.2.2.2.2.1 x4.2.2.2.2.2.2.2.2.2.2.2.2.2.2.2.2.2.2.2.2.2.2.2.2.2.2.2.2.2.2.2.2.1)) x4.2.2.2.2.2.2.2.2.2.2.2.2.2.2.2.2.2.2.2.2.2.2.2.2.2.2.2.2.2.2.2.2.2.1 x4.2.2.2.2.2.2.2.2.2.2.2.2.2.2.2.2.2.2.2.2.2.2.2.2.2.2.2.2.2.2.2.2.2.2.1 x4.2.2.2.2.2.2.2.2.2.2.2.2.2.2.2.2.2.2.2.2.2.2.2.2.2.2.2.2.2.2.2.2.2.2.2.1 x4.2.2.2.2.2.2.2.2.2.2.2.2.2.2.2.2.2.2.2.2.2.2.2.2.2.2.2.2.2.2.2.2.2.2.2.2.1 x4.2.2.2.2.2.2.2.2.2.2.2.2.2.2.2.2.2.2.2.2.2.2.2.2.2.2.2.2.2.2.2.2.2.2.2.2.2.1)
    ).bind fun r => some (.inr r)
  ) (r3.1.b, r3.1.i, r3.1.h, b, 0, 0, 0, [], 0, 0, 0, 0, 0, [], [], 0, [], [], 0, 0, [], w64 ((w64 (r1 + 1)) + r2.2), c, 1, [], r3.2.kind, r3.2.pos, r3.2.cell.id, r3.2.cell.version, r3.2.cell.kind, r3.2.cell.name, r3.2.cell.code, r3.2.cell.n, [], [], 0, 0, [], 0)
noncomputable def sL41MakeFS : Fsp := ⟨34, [shT .cur, slF .op, shF .int], [shT .cur, shT .op], false, true, fun x => sL41Make x.1 x.2.1 x.2.2⟩
noncomputable def sL42Place (a : List GOp) (b : GOp) : Option (Int) :=
  loopD (fun (x1 : (List GOp) × Int × Int × Int × (List Int) × Int × Int × Int × Int × Int × Str × Str × Int × Str × Str × Int × Int × (List GRead) × Int) =>
    bif (decide (x1.2.2.2.2.2.2.2.2.2.2.2.2.2.2.2.2.2.2 < (x1.1.length : Int))) then
      (idx x1.1 x1.2.2.2.2.2.2.2.2.2.2.2.2.2.2.2.2.2.2).bind fun e2 =>
      bif (e2.time == x1.2.1) then
        (idx x1.1 x1.2.2.2.2.2.2.2.2.2.2.2.2.2.2.2.2.2.2).bind fun e3 =>
        bif (e3.by_ == x1.2.2.1) then
          some (.inr (x1.2.2.2.2.2.2.2.2.2.2.2.2.2.2.2.2.2.2))
        else
          some (.inl (x1.1, x1.2.1, x1.2.2.1, x1.2.2.2.1, x1.2.2.2.2.1, x1.2.2.2.2.2.1, x1.2.2.2.2.2.2.1, x1.2.2.2.2.2.2.2.1, x1.2.2.2.2.2.2.2.2.1, x1.2.2.2.2.2.2.2.2.2.1, x1.2.2.2.2.2.2.2.2.2.2.1, x1.2.2.2.2.2.2.2.2.2.2.2.1, x1.2.2.2.2.2.2.2.2.2.2.2.2.1, x1.2.2.2.2.2.2.2.2.2.2.2.2.2.1, x1.2.2.2.2.2.2.2.2.2.2.2.2.2.2.1, x1.2.2.2.2.2.2.2.2.2.2.2.2.2.2.2.1, x1.2.2.2.2.2.2.2.2.2.2.2.2.2.2.2.2.1, x1.2.2.2.2.2.2.2.2.2.2.2.2.2.2.2.2.2.1, w64 (x1.2.2.2.2.2.2.2.2.2.2.2.2.2.2.2.2.2.2 + 1)))
      else
        some (.inl (x1.1, x1.2.1, x1.2.2.1, x1.2.2.2.1, x1.2.2.2.2.1, x1.2.2.2.2.2.1, x1.2.2.2.2.2.2.1, x1.2.2.2.2.2.2.2.1, x1.2.2.2.2.2.2.2.2.1, x1.2.2.2.2.2.2.2.2.2.1, x1.2.2.2.2.2.2.2.2.2.2.1, x1.2.2.2.2.2.2.2.2.2.2.2.1, x1.2.2.2.2.2.2.2.2.2.2.2.2.1, x1.2.2.2.2.2.2.2.2.2.2.2.2.2.1, x1.2.2.2.2.2.2.2.2.2.2.2.2.2.2.1, x1.2.2.2.2.2.2.2.2.2.2.2.2.2.2.2.1, x1.2.2.2.2.2.2.2.2.2.2.2.2.2.2.2.2.1, x1.2.2.2.2.2.2.2.2.2.2.2.2.2.2.2.2.2.1, w64 (x1.2.2.2.2.2.2.2.2.2.2.2.2.2.2.2.2.2.2 + 1)))
    else
      some (.inr ((-1)))
  ) (a, b.time, b.by_, b.kind, b.seen, b.edit.kind, b.edit.pos, b.edit.cell.id, b.edit.cell.version, b.edit.cell.kind, b.edit.cell.name, b.edit.cell.code, b.edit.cell.n, b.src, b.dst, b.cell, b.version, b.reads, 0)
noncomputable def sL42PlaceFS : Fsp := ⟨64, [slF .op, shT .op], [shF .int], true, false, fun x => sL42Place x.1 x.2⟩
noncomputable def sMergeOps (a : List GOp) (b : List GOp) : Option ((List GOp)) :=
  (gd (0 + a.length)).bind fun _ =>
  (gd (([] ++ a).length + b.length)).bind fun _ =>
  loopD (fun (x1 : (List GOp) × (List GOp) × Int) =>
    bif (decide (x1.2.2 < (x1.2.1.length : Int))) then
      (idx x1.2.1 x1.2.2).bind fun _ =>
      (x1.2.1[x1.2.2.toNat]?).bind fun e3 =>
      (sL42Place x1.1 e3).bind fun r4 =>
      bif (decide (r4 ≥ 0)) then
        some (.inl (x1.1, x1.2.1, w64 (x1.2.2 + 1)))
      else
      loopD (fun (x5 : (List GOp) × (List GOp) × Int × Int) =>
        bif (decide (x5.2.2.2 < (x5.1.length : Int))) then
          (idx x5.1 x5.2.2.2).bind fun _ =>
          (x5.1[x5.2.2.2.toNat]?).bind fun e7 =>
          (idx x5.2.1 x5.2.2.1).bind fun _ =>
          (x5.2.1[x5.2.2.1.toNat]?).bind fun e9 =>
          (sOpBefore e7 e9).bind fun r10 =>
          bif r10 then
            some (.inl (x5.1, x5.2.1, x5.2.2.1, w64 (x5.2.2.2 + 1)))
          else
          (
            (cutAt x5.1 x5.2.2.2).bind fun m11 =>
            ((if x5.2.2.2 = (m11 : Int) then some () else none)).bind fun _ =>
            (gd (0 + (x5.1.take m11).length)).bind fun _ =>
            (idx x5.2.1 x5.2.2.1).bind fun _ =>
            (x5.2.1[x5.2.2.1.toNat]?).bind fun e13 =>
            (sL41Copy e13).bind fun r14 =>
            (gd (([] ++ (x5.1.take m11)).length + [r14].length)).bind fun _ =>
            ((if x5.2.2.2 = (m11 : Int) then some () else none)).bind fun _ =>
            (gd ((([] ++ (x5.1.take m11)) ++ [r14]).length + (x5.1.drop m11).length)).bind fun _ =>
            some (.inl ((([] ++ (x5.1.take m11)) ++ [r14]) ++ (x5.1.drop m11), x5.2.1, w64 (x5.2.2.1 + 1)))
          ).bind fun r => some (.inr r)
        else
        (
          (cutAt x5.1 x5.2.2.2).bind fun m15 =>
          ((if x5.2.2.2 = (m15 : Int) then some () else none)).bind fun _ =>
          (gd (0 + (x5.1.take m15).length)).bind fun _ =>
          (idx x5.2.1 x5.2.2.1).bind fun _ =>
          (x5.2.1[x5.2.2.1.toNat]?).bind fun e17 =>
          (sL41Copy e17).bind fun r18 =>
          (gd (([] ++ (x5.1.take m15)).length + [r18].length)).bind fun _ =>
          ((if x5.2.2.2 = (m15 : Int) then some () else none)).bind fun _ =>
          (gd ((([] ++ (x5.1.take m15)) ++ [r18]).length + (x5.1.drop m15).length)).bind fun _ =>
          some (.inl ((([] ++ (x5.1.take m15)) ++ [r18]) ++ (x5.1.drop m15), x5.2.1, w64 (x5.2.2.1 + 1)))
        ).bind fun r => some (.inr r)
      ) (x1.1, x1.2.1, x1.2.2, 0)
    else
      some (.inr (x1.1))
  ) ([], ([] ++ a) ++ b, 0)
noncomputable def sMergeOpsFS : Fsp := ⟨53, [slF .op, slF .op], [slF .op], true, false, fun x => sMergeOps x.1 x.2⟩
noncomputable def sL41Log (a : GCur) (b : Int) : Option (GCur × (List GOp)) :=
  (sL1Below a (w64 (b + 1))).bind fun r1 =>
  loopD (fun (x2 : (List Int) × Int × Int × (List GOp) × Int × Int) =>
    bif (decide (x2.2.2.2.2.2 < x2.2.2.2.2.1)) then
      (sL1Once (GCur.mk x2.1 x2.2.1 x2.2.2.1) 2).bind fun r3 =>
      bif r3.2 then
        (sL1Below r3.1 (w64 ((x2.2.2.2.1.length : Int) + 1))).bind fun r4 =>
        (eff.cutL x2.2.2.2.1 none (some r4.2)).bind fun r5 =>
        (sL1Below r4.1 3).bind fun r6 =>
        (sL41Make r6.1 r5 r6.2).bind fun r7 =>
        (sMergeOps x2.2.2.2.1 [r7.2]).bind fun r8 =>
        some (.inl (r7.1.b, r7.1.i, r7.1.h, r8, x2.2.2.2.2.1, w64 (x2.2.2.2.2.2 + 1)))
      else
        (sL1Below r3.1 3).bind fun r9 =>
        (sL41Make r9.1 x2.2.2.2.1 r9.2).bind fun r10 =>
        (sMergeOps x2.2.2.2.1 [r10.2]).bind fun r11 =>
        some (.inl (r10.1.b, r10.1.i, r10.1.h, r11, x2.2.2.2.2.1, w64 (x2.2.2.2.2.2 + 1)))
    else
      some (.inr (GCur.mk x2.1 x2.2.1 x2.2.2.1, x2.2.2.2.1))
  ) (r1.1.b, r1.1.i, r1.1.h, [], r1.2, 0)
noncomputable def sL41LogFS : Fsp := ⟨35, [shT .cur, shF .int], [shT .cur, slF .op], false, true, fun x => sL41Log x.1 x.2⟩
noncomputable def sL41Bent (a : GCur) : Option (GCur × GOp) :=
  (sL41Log a 3).bind fun r1 =>
  (sL1Below r1.1 3).bind fun r2 =>
  (sL41Make r2.1 r1.2 r2.2).bind fun r3 =>
  (sL1Below r3.1 10).bind fun r4 =>
  bif (r4.2 == 0) then
    (sL1PickInt r4.1 [0, 300, 301]).bind fun r5 =>
    some (r5.1, GOp.mk r5.2 r3.2.by_ r3.2.kind r3.2.seen r3.2.edit r3.2.src r3.2.dst r3.2.cell r3.2.version r3.2.reads)
  else
  bif (r4.2 == 1) then
    (sL1PickInt r4.1 [-1, 3]).bind fun r6 =>
    some (r6.1, GOp.mk r3.2.time r6.2 r3.2.kind r3.2.seen r3.2.edit r3.2.src r3.2.dst r3.2.cell r3.2.version r3.2.reads)
  else
  bif (r4.2 == 2) then
    (gd (r3.2.seen.length + [0].length)).bind fun _ =>
    some (r4.1, GOp.mk r3.2.time r3.2.by_ r3.2.kind (r3.2.seen ++ [0]) r3.2.edit r3.2.src r3.2.dst r3.2.cell r3.2.version r3.2.reads)
  else
  bif (r4.2 == 3) then
    (sL1Below r4.1 5).bind fun r7 =>
    some (r7.1, GOp.mk r3.2.time r3.2.by_ r7.2 r3.2.seen r3.2.edit r3.2.src r3.2.dst r3.2.cell r3.2.version r3.2.reads)
  else
  bif (r4.2 == 4) then
    (sL1PickInt r4.1 [-1, 60, 61]).bind fun r8 =>
    (idx r3.2.seen 0).bind fun _ =>
    (r3.2.seen[0]?).bind fun e10 =>
    some (r8.1, GOp.mk r3.2.time r3.2.by_ r3.2.kind (r3.2.seen.set 0 r8.2) r3.2.edit r3.2.src r3.2.dst r3.2.cell r3.2.version r3.2.reads)
  else
    bif (r4.2 == 5) then
      some (r4.1, GOp.mk r3.2.time r3.2.by_ r3.2.kind r3.2.seen r3.2.edit r3.2.src [121] r3.2.cell r3.2.version r3.2.reads)
    else
      some (r4.1, r3.2)
noncomputable def sL41BentFS : Fsp := ⟨16, [shT .cur], [shT .cur, shT .op], false, true, fun x => sL41Bent x⟩
noncomputable def sNewReplica (a : Int) : Option (GReplica × Bool) :=
  (sL1In a 0 2).bind fun r1 =>
  bif (!r1) then
    some (GReplica.mk 0 [], false)
  else
    some (GReplica.mk a [], true)
noncomputable def sNewReplicaFS : Fsp := ⟨46, [shF .int], [shT .replica, shF .bool], true, false, fun x => sNewReplica x⟩
noncomputable def sPull (a : GReplica) (b : GReplica) : Option (GReplica × Bool) :=
  (sMergeOps a.ops b.ops).bind fun r1 =>
  (sIsValidReplica a).bind fun r2 =>
  bif (!r2) then
    (sL43Copy a).bind fun r3 =>
    some (r3, false)
  else
  (sIsValidReplica b).bind fun r4 =>
  bif (!r4) then
    (sL43Copy a).bind fun r5 =>
    some (r5, false)
  else
    (sIsValidReplica (GReplica.mk a.id r1)).bind fun r6 =>
    bif (!r6) then
      (sL43Copy a).bind fun r7 =>
      some (r7, false)
    else
      some (GReplica.mk a.id r1, true)
noncomputable def sPullFS : Fsp := ⟨48, [shT .replica, shT .replica], [shT .replica, shF .bool], true, false, fun x => sPull x.1 x.2⟩
noncomputable def sL43Net (a : GCur) (b : Int) : Option (GCur × (List GReplica)) :=
  loopD (fun (x1 : (List Int) × Int × Int × Int × (List GReplica) × Int) =>
    bif (decide (x1.2.2.2.2.2 < 3)) then
      (sNewReplica x1.2.2.2.2.2).bind fun r2 =>
      (gd (x1.2.2.2.2.1.length + [r2.1].length)).bind fun _ =>
      some (.inl (x1.1, x1.2.1, x1.2.2.1, x1.2.2.2.1, x1.2.2.2.2.1 ++ [r2.1], w64 (x1.2.2.2.2.2 + 1)))
    else
    (
      (sL1Below (GCur.mk x1.1 x1.2.1 x1.2.2.1) (w64 (x1.2.2.2.1 + 1))).bind fun r3 =>
      loopD (fun (x4 : (List Int) × Int × Int × (List GReplica) × Int × Int) =>
        bif (decide (x4.2.2.2.2.2 < x4.2.2.2.2.1)) then
          (sL1Below (GCur.mk x4.1 x4.2.1 x4.2.2.1) 3).bind fun r5 =>
          (sL1Once r5.1 3).bind fun r6 =>
          bif r6.2 then
            (idx x4.2.2.2.1 r5.2).bind fun _ =>
            (x4.2.2.2.1[r5.2.toNat]?).bind fun e8 =>
            (sL1Below r6.1 2).bind fun r9 =>
            (idx x4.2.2.2.1 ((w64 ((w64 (r5.2 + 1)) + r9.2)).tmod 3)).bind fun _ =>
            (x4.2.2.2.1[((w64 ((w64 (r5.2 + 1)) + r9.2)).tmod 3).toNat]?).bind fun e11 =>
            (sPull e8 e11).bind fun r12 =>
            (idx x4.2.2.2.1 r5.2).bind fun _ =>
            (x4.2.2.2.1[r5.2.toNat]?).bind fun e14 =>
            some (.inl (r9.1.b, r9.1.i, r9.1.h, x4.2.2.2.1.set r5.2.toNat r12.1, x4.2.2.2.2.1, w64 (x4.2.2.2.2.2 + 1)))
          else
          (idx x4.2.2.2.1 r5.2).bind fun _ =>
          (x4.2.2.2.1[r5.2.toNat]?).bind fun e16 =>
          (idx x4.2.2.2.1 r5.2).bind fun _ =>
          (x4.2.2.2.1[r5.2.toNat]?).bind fun e18 =>
          (sL41Make r6.1 e18.ops r5.2).bind fun r19 =>
          (sAddOp e16 r19.2).bind fun r20 =>
          (idx x4.2.2.2.1 r5.2).bind fun _ =>
          (x4.2.2.2.1[r5.2.toNat]?).bind fun e22 =>
          some (.inl (r19.1.b, r19.1.i, r19.1.h, x4.2.2.2.1.set r5.2.toNat r20.1, x4.2.2.2.2.1, w64 (x4.2.2.2.2.2 + 1)))
        else
          some (.inr (GCur.mk x4.1 x4.2.1 x4.2.2.1, x4.2.2.2.1))
      ) (r3.1.b, r3.1.i, r3.1.h, x1.2.2.2.2.1, r3.2, 0)
    ).bind fun r => some (.inr r)
  ) (a.b, a.i, a.h, b, [], 0)
noncomputable def sL43NetFS : Fsp := ⟨31, [shT .cur, shF .int], [shT .cur, slF .replica], true, false, fun x => sL43Net x.1 x.2⟩
noncomputable def sL43Bent (a : GCur) : Option (GCur × GReplica) :=
  (sL43Net a 10).bind fun r1 =>
  (sL1Below r1.1 3).bind fun r2 =>
  (idx r1.2 r2.2).bind fun _ =>
  ((if r2.2.toNat = r2.2.toNat then r1.2[r2.2.toNat]? else none)).bind fun e4 =>
  (sL1Below r2.1 12).bind fun r5 =>
  bif (r5.2 == 0) then
    (sL1PickInt r5.1 [-1, 3]).bind fun r6 =>
    some (r6.1, GReplica.mk r6.2 e4.ops)
  else
  bif (r5.2 == 1) then
    (sL41Bent r5.1).bind fun r7 =>
    (gd (e4.ops.length + [r7.2].length)).bind fun _ =>
    some (r7.1, GReplica.mk e4.id (e4.ops ++ [r7.2]))
  else
  bif (r5.2 == 2) then
    loopD (fun (x8 : (List Int) × Int × Int × Int × (List GOp) × Int × (List GOp) × Int) =>
      bif (decide (x8.2.2.2.2.2.2.2 < 70)) then
        (sL1Below (GCur.mk x8.1 x8.2.1 x8.2.2.1) 3).bind fun r9 =>
        bif (decide ((x8.2.2.2.2.2.2.1.length : Int) < (w64 (59 + r9.2)))) then
          (sAddOp (GReplica.mk x8.2.2.2.2.2.1 x8.2.2.2.2.2.2.1) (GOp.mk 0 0 2 [] (GEdit.mk 0 0 (GCell.mk 0 0 0 [] [] 0)) [97] [120] 0 0 [])).bind fun r10 =>
          bif ((r10.1.ops.length : Int) == 60) then
            some (.inr (r9.1, r10.1))
          else
            some (.inl (r9.1.b, r9.1.i, r9.1.h, x8.2.2.2.1, x8.2.2.2.2.1, r10.1.id, r10.1.ops, w64 (x8.2.2.2.2.2.2.2 + 1)))
        else
          some (.inr (r9.1, GReplica.mk x8.2.2.2.2.2.1 x8.2.2.2.2.2.2.1))
      else
        some (.inr (GCur.mk x8.1 x8.2.1 x8.2.2.1, GReplica.mk x8.2.2.2.2.2.1 x8.2.2.2.2.2.2.1))
    ) (r5.1.b, r5.1.i, r5.1.h, 0, [], e4.id, e4.ops, 0)
  else
    some (r5.1, e4)
noncomputable def sL43BentFS : Fsp := ⟨15, [shT .cur], [shT .cur, shT .replica], false, false, fun x => sL43Bent x⟩
noncomputable def sDrawAddOp (a : List Int) : Option (GReplica × GOp) :=
  (sL1New a).bind fun r1 =>
  (sL43Bent r1).bind fun r2 =>
  (sL41Bent r2.1).bind fun r3 =>
  some (r2.2, r3.2)
noncomputable def sDrawAddOpFS : Fsp := ⟨5, [slF .u8], [shT .replica, shT .op], false, false, fun x => sDrawAddOp x⟩
noncomputable def iCountBy (a : List GOp) (b : Int) : Option (Int) :=
  loopD (fun (x1 : Int × Int × (List GOp) × Int × Int) =>
    bif (decide (x1.2.2.2.2 < x1.2.2.2.1)) then
      (idx x1.2.2.1 x1.2.2.2.2).bind fun e2 =>
      bif (e2.by_ == x1.1) then
        some (.inl (x1.1, w64 (x1.2.1 + 1), x1.2.2.1, x1.2.2.2.1, w64 (x1.2.2.2.2 + 1)))
      else
        some (.inl (x1.1, x1.2.1, x1.2.2.1, x1.2.2.2.1, w64 (x1.2.2.2.2 + 1)))
    else
      some (.inr (x1.2.1))
  ) (b, 0, a, (a.length : Int), 0)
noncomputable def iCountByFS : Fsp := ⟨30, [slF .op, shF .int], [shF .int], true, false, fun x => iCountBy x.1 x.2⟩
noncomputable def iSeenBy (a : GReplica) : Option ((List Int)) :=
  loopD (fun (x1 : Int × (List GOp) × (List Int) × Int) =>
    bif (decide (x1.2.2.2 < 3)) then
      (iCountBy x1.2.1 x1.2.2.2).bind fun r2 =>
      (gd (x1.2.2.1.length + [r2].length)).bind fun _ =>
      some (.inl (x1.1, x1.2.1, x1.2.2.1 ++ [r2], w64 (x1.2.2.2 + 1)))
    else
      some (.inr (x1.2.2.1))
  ) (a.id, a.ops, [], 0)
noncomputable def iSeenByFS : Fsp := ⟨13, [shT .replica], [slF .int], true, false, fun x => iSeenBy x⟩
noncomputable def iCopyRow (a : GRow) : Option (GRow) :=
  (gd (0 + a.cells.length)).bind fun _ =>
  (gd (0 + a.orig.length)).bind fun _ =>
  some (GRow.mk ([] ++ a.cells) ([] ++ a.orig))
noncomputable def iCopyRowFS : Fsp := ⟨66, [shT .row], [shT .row], true, false, fun x => iCopyRow x⟩
noncomputable def iCopyValueB (riCopyValue : GVal → Option (GVal)) (riCopyValues : (List GVal) → Option ((List GVal))) (a : GVal) : Option (GVal) :=
  (riCopyValues a.list).bind fun r1 =>
  (gd (0 + a.columns.length)).bind fun _ =>
  loopD (fun (x2 : Int × Int × Int × Str × (List GVal) × (List Str) × (List GRow) × Int × Int × Int × Str × (List GVal) × (List Str) × (List GRow) × (List GRow) × Int × Int) =>
    bif (decide (x2.2.2.2.2.2.2.2.2.2.2.2.2.2.2.2.2 < x2.2.2.2.2.2.2.2.2.2.2.2.2.2.2.2.1)) then
      (idx x2.2.2.2.2.2.2.2.2.2.2.2.2.2.2.1 x2.2.2.2.2.2.2.2.2.2.2.2.2.2.2.2.2).bind fun e3 =>
      (iCopyRow e3).bind fun r4 =>
      (gd (x2.2.2.2.2.2.2.2.2.2.2.2.2.2.1.length + [r4].length)).bind fun _ =>
      some (.inl (x2.1, x2.2.1, x2.2.2.1, x2.2.2.2.1, x2.2.2.2.2.1, x2.2.2.2.2.2.1, x2.2.2.2.2.2.2.1, x2.2.2.2.2.2.2.2.1, x2.2.2.2.2.2.2.2.2.1, x2.2.2.2.2.2.2.2.2.2.1, x2.2.2.2.2.2.2.2.2.2.2.1, x2.2.2.2.2.2.2.2.2.2.2.2.1, x2.2.2.2.2.2.2.2.2.2.2.2.2.1, x2.2.2.2.2.2.2.2.2.2.2.2.2.2.1 ++ [r4], x2.2.2.2.2.2.2.2.2.2.2.2.2.2.2.1, x2.2.2.2.2.2.2.2.2.2.2.2.2.2.2.2.1, w64 (x2.2.2.2.2.2.2.2.2.2.2.2.2.2.2.2.2 + 1)))
    else
      some (.inr (GVal.mk x2.2.2.2.2.2.2.2.1 x2.2.2.2.2.2.2.2.2.1 x2.2.2.2.2.2.2.2.2.2.1 x2.2.2.2.2.2.2.2.2.2.2.1 x2.2.2.2.2.2.2.2.2.2.2.2.1 x2.2.2.2.2.2.2.2.2.2.2.2.2.1 x2.2.2.2.2.2.2.2.2.2.2.2.2.2.1))
  ) (0, 0, 0, [], [], [], [], a.kind, a.n, a.step, a.text, r1, [] ++ a.columns, [], a.rows, (a.rows.length : Int), 0)
noncomputable def iCopyValuesB (riCopyValue : GVal → Option (GVal)) (riCopyValues : (List GVal) → Option ((List GVal))) (a : List GVal) : Option ((List GVal)) :=
  loopD (fun (x1 : (List GVal) × (List GVal) × Int × Int) =>
    bif (decide (x1.2.2.2 < x1.2.2.1)) then
      (idx x1.2.1 x1.2.2.2).bind fun e2 =>
      (riCopyValue (reVal e2)).bind fun r3 =>
      (gd (x1.1.length + [reVal r3].length)).bind fun _ =>
      some (.inl (x1.1 ++ [reVal r3], x1.2.1, x1.2.2.1, w64 (x1.2.2.2 + 1)))
    else
      some (.inr (x1.1))
  ) ([], a, (a.length : Int), 0)
noncomputable def iCopyValueG : Nat → (GVal → Option (GVal)) × ((List GVal) → Option ((List GVal)))
  | 0 => (fun _ => none, fun _ => none)
  | n + 1 => (iCopyValueB (iCopyValueG n).1 (iCopyValueG n).2, iCopyValuesB (iCopyValueG n).1 (iCopyValueG n).2)
noncomputable def iCopyValue (a : GVal) : Option (GVal) := (iCopyValueG (siz a + 1)).1 a
noncomputable def iCopyValueFS : Fsp := ⟨56, [shT .val], [shT .val], true, false, fun x => iCopyValue x⟩
noncomputable def iCopyValueFSN (n : Nat) : Fsp := ⟨56, [shT .val], [shT .val], true, false, fun x => (iCopyValueG n).1 x⟩
noncomputable def iCopyValues (a : List GVal) : Option ((List GVal)) := (iCopyValueG (siz a + 1)).2 a
noncomputable def iCopyValuesFS : Fsp := ⟨65, [slF .val], [slF .val], true, false, fun x => iCopyValues x⟩
noncomputable def iCopyValuesFSN (n : Nat) : Fsp := ⟨65, [slF .val], [slF .val], true, false, fun x => (iCopyValueG n).2 x⟩
noncomputable def iCopyReads (a : List GRead) : Option ((List GRead)) :=
  loopD (fun (x1 : (List GRead) × (List GRead) × Int × Int) =>
    bif (decide (x1.2.2.2 < x1.2.2.1)) then
      (idx x1.2.1 x1.2.2.2).bind fun e2 =>
      (iCopyValue (reVal e2.result)).bind fun r3 =>
      (gd (x1.1.length + [GRead.mk e2.kind e2.n e2.time e2.text (reVal r3)].length)).bind fun _ =>
      some (.inl (x1.1 ++ [GRead.mk e2.kind e2.n e2.time e2.text (reVal r3)], x1.2.1, x1.2.2.1, w64 (x1.2.2.2 + 1)))
    else
      some (.inr (x1.1))
  ) ([], a, (a.length : Int), 0)
noncomputable def iCopyReadsFS : Fsp := ⟨39, [slF .read], [slF .read], true, false, fun x => iCopyReads x⟩
noncomputable def iCopyOp (a : GOp) : Option (GOp) :=
  (gd (0 + a.seen.length)).bind fun _ =>
  (iCopyReads a.reads).bind fun r1 =>
  some (GOp.mk a.time a.by_ a.kind ([] ++ a.seen) a.edit a.src a.dst a.cell a.version r1)
noncomputable def iCopyOpFS : Fsp := ⟨19, [shT .op], [shT .op], true, false, fun x => iCopyOp x⟩
noncomputable def iCopyOps (a : List GOp) : Option ((List GOp)) :=
  loopD (fun (x1 : (List GOp) × (List GOp) × Int × Int) =>
    bif (decide (x1.2.2.2 < x1.2.2.1)) then
      (idx x1.2.1 x1.2.2.2).bind fun e2 =>
      (iCopyOp e2).bind fun r3 =>
      (gd (x1.1.length + [r3].length)).bind fun _ =>
      some (.inl (x1.1 ++ [r3], x1.2.1, x1.2.2.1, w64 (x1.2.2.2 + 1)))
    else
      some (.inr (x1.1))
  ) ([], a, (a.length : Int), 0)
noncomputable def iCopyOpsFS : Fsp := ⟨36, [slF .op], [slF .op], true, false, fun x => iCopyOps x⟩
noncomputable def iCopyReplica (a : GReplica) : Option (GReplica) :=
  (iCopyOps a.ops).bind fun r1 =>
  some (GReplica.mk a.id r1)
noncomputable def iCopyReplicaFS : Fsp := ⟨17, [shT .replica], [shT .replica], true, false, fun x => iCopyReplica x⟩
noncomputable def iWithin (a : Int) (b : Int) (c : Int) : Option (Bool) :=
  bif (decide (b ≤ a)) then
    some ((decide (a ≤ c)))
  else
    some (false)
noncomputable def iWithinFS : Fsp := ⟨37, [shF .int, shF .int, shF .int], [shF .bool], true, false, fun x => iWithin x.1 x.2.1 x.2.2⟩
noncomputable def iIsValidOp (a : GOp) : Option (Bool) :=
  (iWithin a.time 1 300).bind fun r1 =>
  bif (!r1) then
    some (false)
  else
  (iWithin a.by_ 0 2).bind fun r2 =>
  bif (!r2) then
    some (false)
  else
  bif ((a.seen.length : Int) != 3) then
    some (false)
  else
  loopD (fun (x3 : Int × Int × Int × (List Int) × Int × Int × Int × Int × Int × Str × Str × Int × Str × Str × Int × Int × (List GRead) × (List Int) × Int × Int) =>
    bif (decide (x3.2.2.2.2.2.2.2.2.2.2.2.2.2.2.2.2.2.2.2 < x3.2.2.2.2.2.2.2.2.2.2.2.2.2.2.2.2.2.2.1)) then
      (idx x3.2.2.2.2.2.2.2.2.2.2.2.2.2.2.2.2.2.1 x3.2.2.2.2.2.2.2.2.2.2.2.2.2.2.2.2.2.2.2).bind fun e4 =>
      (iWithin e4 0 60).bind fun r5 =>
      bif (!r5) then
        some (.inr (false))
      else
        some (.inl (x3.1, x3.2.1, x3.2.2.1, x3.2.2.2.1, x3.2.2.2.2.1, x3.2.2.2.2.2.1, x3.2.2.2.2.2.2.1, x3.2.2.2.2.2.2.2.1, x3.2.2.2.2.2.2.2.2.1, x3.2.2.2.2.2.2.2.2.2.1, x3.2.2.2.2.2.2.2.2.2.2.1, x3.2.2.2.2.2.2.2.2.2.2.2.1, x3.2.2.2.2.2.2.2.2.2.2.2.2.1, x3.2.2.2.2.2.2.2.2.2.2.2.2.2.1, x3.2.2.2.2.2.2.2.2.2.2.2.2.2.2.1, x3.2.2.2.2.2.2.2.2.2.2.2.2.2.2.2.1, x3.2.2.2.2.2.2.2.2.2.2.2.2.2.2.2.2.1, x3.2.2.2.2.2.2.2.2.2.2.2.2.2.2.2.2.2.1, x3.2.2.2.2.2.2.2.2.2.2.2.2.2.2.2.2.2.2.1, w64 (x3.2.2.2.2.2.2.2.2.2.2.2.2.2.2.2.2.2.2.2 + 1)))
    else
    (
      bif (x3.2.2.2.2.2.2.2.2.2.2.2.2.1 == []) then
        bif (x3.2.2.2.2.2.2.2.2.2.2.2.2.2.2.1 == 0) then
          bif (x3.2.2.2.2.2.2.2.2.2.2.2.2.2.2.2.1 == 0) then
            bif (x3.2.2.1 == 1) then
              bif (x3.2.2.2.2.2.2.2.2.2.2.2.2.2.1 == []) then
                some (((x3.2.2.2.2.2.2.2.2.2.2.2.2.2.2.2.2.1.length : Int) == 0))
              else
                some (false)
            else
            bif (x3.2.2.1 == 2) then
              bif ((x3.2.2.2.2.1 == 0) && ((x3.2.2.2.2.2.1 == 0) && ((x3.2.2.2.2.2.2.1 == 0) && ((x3.2.2.2.2.2.2.2.1 == 0) && ((x3.2.2.2.2.2.2.2.2.1 == 0) && ((x3.2.2.2.2.2.2.2.2.2.1 == []) && ((x3.2.2.2.2.2.2.2.2.2.2.1 == []) && (x3.2.2.2.2.2.2.2.2.2.2.2.1 == 0)))))))) then
                some (((x3.2.2.2.2.2.2.2.2.2.2.2.2.2.2.2.2.1.length : Int) == 0))
              else
                some (false)
            else
              bif (x3.2.2.1 == 3) then
                bif ((x3.2.2.2.2.1 == 0) && ((x3.2.2.2.2.2.1 == 0) && ((x3.2.2.2.2.2.2.1 == 0) && ((x3.2.2.2.2.2.2.2.1 == 0) && ((x3.2.2.2.2.2.2.2.2.1 == 0) && ((x3.2.2.2.2.2.2.2.2.2.1 == []) && ((x3.2.2.2.2.2.2.2.2.2.2.1 == []) && (x3.2.2.2.2.2.2.2.2.2.2.2.1 == 0)))))))) then
                  some ((x3.2.2.2.2.2.2.2.2.2.2.2.2.2.1 == []))
                else
                  some (false)
              else
                some (false)
          else
          bif (x3.2.2.1 == 1) then
            bif (x3.2.2.2.2.2.2.2.2.2.2.2.2.2.1 == []) then
              some (false)
            else
              some (false)
          else
          bif (x3.2.2.1 == 2) then
            bif ((x3.2.2.2.2.1 == 0) && ((x3.2.2.2.2.2.1 == 0) && ((x3.2.2.2.2.2.2.1 == 0) && ((x3.2.2.2.2.2.2.2.1 == 0) && ((x3.2.2.2.2.2.2.2.2.1 == 0) && ((x3.2.2.2.2.2.2.2.2.2.1 == []) && ((x3.2.2.2.2.2.2.2.2.2.2.1 == []) && (x3.2.2.2.2.2.2.2.2.2.2.2.1 == 0)))))))) then
              some (false)
            else
              some (false)
          else
            bif (x3.2.2.1 == 3) then
              bif ((x3.2.2.2.2.1 == 0) && ((x3.2.2.2.2.2.1 == 0) && ((x3.2.2.2.2.2.2.1 == 0) && ((x3.2.2.2.2.2.2.2.1 == 0) && ((x3.2.2.2.2.2.2.2.2.1 == 0) && ((x3.2.2.2.2.2.2.2.2.2.1 == []) && ((x3.2.2.2.2.2.2.2.2.2.2.1 == []) && (x3.2.2.2.2.2.2.2.2.2.2.2.1 == 0)))))))) then
                some ((x3.2.2.2.2.2.2.2.2.2.2.2.2.2.1 == []))
              else
                some (false)
            else
              some (false)
        else
        bif (x3.2.2.1 == 1) then
          bif (x3.2.2.2.2.2.2.2.2.2.2.2.2.2.1 == []) then
            some (false)
          else
            some (false)
        else
        bif (x3.2.2.1 == 2) then
          bif ((x3.2.2.2.2.1 == 0) && ((x3.2.2.2.2.2.1 == 0) && ((x3.2.2.2.2.2.2.1 == 0) && ((x3.2.2.2.2.2.2.2.1 == 0) && ((x3.2.2.2.2.2.2.2.2.1 == 0) && ((x3.2.2.2.2.2.2.2.2.2.1 == []) && ((x3.2.2.2.2.2.2.2.2.2.2.1 == []) && (x3.2.2.2.2.2.2.2.2.2.2.2.1 == 0)))))))) then
            some (false)
          else
            some (false)
        else
          bif (x3.2.2.1 == 3) then
            bif ((x3.2.2.2.2.1 == 0) && ((x3.2.2.2.2.2.1 == 0) && ((x3.2.2.2.2.2.2.1 == 0) && ((x3.2.2.2.2.2.2.2.1 == 0) && ((x3.2.2.2.2.2.2.2.2.1 == 0) && ((x3.2.2.2.2.2.2.2.2.2.1 == []) && ((x3.2.2.2.2.2.2.2.2.2.2.1 == []) && (x3.2.2.2.2.2.2.2.2.2.2.2.1 == 0)))))))) then
              some ((x3.2.2.2.2.2.2.2.2.2.2.2.2.2.1 == []))
            else
              some (false)
          else
            some (false)
      else
      bif (x3.2.2.2.2.2.2.2.2.2.2.2.2.2.2.1 == 0) then
        bif (x3.2.2.2.2.2.2.2.2.2.2.2.2.2.2.2.1 == 0) then
          bif (x3.2.2.1 == 1) then
            some (false)
          else
          bif (x3.2.2.1 == 2) then
            bif ((x3.2.2.2.2.1 == 0) && ((x3.2.2.2.2.2.1 == 0) && ((x3.2.2.2.2.2.2.1 == 0) && ((x3.2.2.2.2.2.2.2.1 == 0) && ((x3.2.2.2.2.2.2.2.2.1 == 0) && ((x3.2.2.2.2.2.2.2.2.2.1 == []) && ((x3.2.2.2.2.2.2.2.2.2.2.1 == []) && (x3.2.2.2.2.2.2.2.2.2.2.2.1 == 0)))))))) then
              some (((x3.2.2.2.2.2.2.2.2.2.2.2.2.2.2.2.2.1.length : Int) == 0))
            else
              some (false)
          else
            bif (x3.2.2.1 == 3) then
              bif ((x3.2.2.2.2.1 == 0) && ((x3.2.2.2.2.2.1 == 0) && ((x3.2.2.2.2.2.2.1 == 0) && ((x3.2.2.2.2.2.2.2.1 == 0) && ((x3.2.2.2.2.2.2.2.2.1 == 0) && ((x3.2.2.2.2.2.2.2.2.2.1 == []) && ((x3.2.2.2.2.2.2.2.2.2.2.1 == []) && (x3.2.2.2.2.2.2.2.2.2.2.2.1 == 0)))))))) then
                some (false)
              else
                some (false)
            else
              some (false)
        else
        bif (x3.2.2.1 == 1) then
          some (false)
        else
        bif (x3.2.2.1 == 2) then
          bif ((x3.2.2.2.2.1 == 0) && ((x3.2.2.2.2.2.1 == 0) && ((x3.2.2.2.2.2.2.1 == 0) && ((x3.2.2.2.2.2.2.2.1 == 0) && ((x3.2.2.2.2.2.2.2.2.1 == 0) && ((x3.2.2.2.2.2.2.2.2.2.1 == []) && ((x3.2.2.2.2.2.2.2.2.2.2.1 == []) && (x3.2.2.2.2.2.2.2.2.2.2.2.1 == 0)))))))) then
            some (false)
          else
            some (false)
        else
          bif (x3.2.2.1 == 3) then
            bif ((x3.2.2.2.2.1 == 0) && ((x3.2.2.2.2.2.1 == 0) && ((x3.2.2.2.2.2.2.1 == 0) && ((x3.2.2.2.2.2.2.2.1 == 0) && ((x3.2.2.2.2.2.2.2.2.1 == 0) && ((x3.2.2.2.2.2.2.2.2.2.1 == []) && ((x3.2.2.2.2.2.2.2.2.2.2.1 == []) && (x3.2.2.2.2.2.2.2.2.2.2.2.1 == 0)))))))) then
              some (false)
            else
              some (false)
          else
            some (false)
      else
      bif (x3.2.2.1 == 1) then
        some (false)
      else
      bif (x3.2.2.1 == 2) then
        bif ((x3.2.2.2.2.1 == 0) && ((x3.2.2.2.2.2.1 == 0) && ((x3.2.2.2.2.2.2.1 == 0) && ((x3.2.2.2.2.2.2.2.1 == 0) && ((x3.2.2.2.2.2.2.2.2.1 == 0) && ((x3.2.2.2.2.2.2.2.2.2.1 == []) && ((x3.2.2.2.2.2.2.2.2.2.2.1 == []) && (x3.2.2.2.2.2.2.2.2.2.2.2.1 == 0)))))))) then
          some (false)
        else
          some (false)
      else
        bif (x3.2.2.1 == 3) then
          bif ((x3.2.2.2.2.1 == 0) && ((x3.2.2.2.2.2.1 == 0) && ((x3.2.2.2.2.2.2.1 == 0) && ((x3.2.2.2.2.2.2.2.1 == 0) && ((x3.2.2.2.2.2.2.2.2.1 == 0) && ((x3.2.2.2.2.2.2.2.2.2.1 == []) && ((x3.2.2.2.2.2.2.2.2.2.2.1 == []) && (x3.2.2.2.2.2.2.2.2.2.2.2.1 == 0)))))))) then
            some (false)
          else
            some (false)
        else
          some (false)
    ).bind fun r => some (.inr r)
  ) (a.time, a.by_, a.kind, a.seen, a.edit.kind, a.edit.pos, a.edit.cell.id, a.edit.cell.version, a.edit.cell.kind, a.edit.cell.name, a.edit.cell.code, a.edit.cell.n, a.src, a.dst, a.cell, a.version, a.reads, a.seen, (a.seen.length : Int), 0)
noncomputable def iIsValidOpFS : Fsp := ⟨54, [shT .op], [shF .bool], true, false, fun x => iIsValidOp x⟩
noncomputable def iOpBefore (a : GOp) (b : GOp) : Option (Bool) :=
  bif (decide (a.time < b.time)) then
    some (true)
  else
    bif (a.time == b.time) then
      some ((decide (a.by_ < b.by_)))
    else
      some (false)
noncomputable def iOpBeforeFS : Fsp := ⟨55, [shT .op, shT .op], [shF .bool], true, false, fun x => iOpBefore x.1 x.2⟩
noncomputable def iIsValidLog (a : List GOp) : Option (Bool) :=
  loopD (fun (x1 : (List GOp) × (List GOp) × Int × Int) =>
    bif (decide (x1.2.2.2 < x1.2.2.1)) then
      (idx x1.2.1 x1.2.2.2).bind fun e2 =>
      (iIsValidOp e2).bind fun r3 =>
      bif (!r3) then
        some (.inr (false))
      else
        bif (decide (x1.2.2.2 > 0)) then
          (idx x1.1 (w64 (x1.2.2.2 - 1))).bind fun e4 =>
          (iOpBefore e4 e2).bind fun r5 =>
          bif (!r5) then
            some (.inr (false))
          else
            some (.inl (x1.1, x1.2.1, x1.2.2.1, w64 (x1.2.2.2 + 1)))
        else
          some (.inl (x1.1, x1.2.1, x1.2.2.1, w64 (x1.2.2.2 + 1)))
    else
      some (.inr ((decide ((x1.1.length : Int) ≤ 60))))
  ) (a, a, (a.length : Int), 0)
noncomputable def iIsValidLogFS : Fsp := ⟨38, [slF .op], [shF .bool], true, false, fun x => iIsValidLog x⟩
noncomputable def iIsValidReplica (a : GReplica) : Option (Bool) :=
  (iWithin a.id 0 2).bind fun r1 =>
  bif r1 then
    (iIsValidLog a.ops).bind fun r2 =>
    some (r2)
  else
    some (false)
noncomputable def iIsValidReplicaFS : Fsp := ⟨18, [shT .replica], [shF .bool], true, false, fun x => iIsValidReplica x⟩
noncomputable def iLastTime (a : List GOp) : Option (Int) :=
  loopD (fun (x1 : Int × (List GOp) × Int × Int) =>
    bif (decide (x1.2.2.2 < x1.2.2.1)) then
      (idx x1.2.1 x1.2.2.2).bind fun e2 =>
      some (.inl ((if e2.time > x1.1 then e2.time else x1.1), x1.2.1, x1.2.2.1, w64 (x1.2.2.2 + 1)))
    else
      some (.inr (x1.1))
  ) (0, a, (a.length : Int), 0)
noncomputable def iLastTimeFS : Fsp := ⟨20, [slF .op], [shF .int], true, false, fun x => iLastTime x⟩
noncomputable def iAddOp (a : GReplica) (b : GOp) : Option (GReplica × Bool) :=
  (iCopyReplica a).bind fun r1 =>
  (iIsValidReplica a).bind fun r2 =>
  bif (!r2) then
    some (r1, false)
  else
  (iCopyOp b).bind fun r3 =>
  (iLastTime a.ops).bind fun r4 =>
  (iSeenBy a).bind fun r5 =>
  (gd (r1.ops.length + [GOp.mk (w64 (r4 + 1)) a.id r3.kind r5 r3.edit r3.src r3.dst r3.cell r3.version r3.reads].length)).bind fun _ =>
  (iIsValidReplica (GReplica.mk r1.id (r1.ops ++ [GOp.mk (w64 (r4 + 1)) a.id r3.kind r5 r3.edit r3.src r3.dst r3.cell r3.version r3.reads]))).bind fun r6 =>
  bif (!r6) then
    (iCopyReplica a).bind fun r7 =>
    some (r7, false)
  else
    some (GReplica.mk r1.id (r1.ops ++ [GOp.mk (w64 (r4 + 1)) a.id r3.kind r5 r3.edit r3.src r3.dst r3.cell r3.version r3.reads]), true)
noncomputable def iAddOpFS : Fsp := ⟨6, [shT .replica, shT .op], [shT .replica, shF .bool], true, false, fun x => iAddOp x.1 x.2⟩
noncomputable def sL1Ints (a : List Int) (b : List Int) : Option (Bool) :=
  bif ((a.length : Int) != (b.length : Int)) then
    some (false)
  else
  loopD (fun (x1 : (List Int) × (List Int) × Int) =>
    bif (decide (x1.2.2 < (x1.1.length : Int))) then
      (idx x1.1 x1.2.2).bind fun e2 =>
      (idx x1.2.1 x1.2.2).bind fun e3 =>
      bif (e2 != e3) then
        some (.inr (false))
      else
        some (.inl (x1.1, x1.2.1, w64 (x1.2.2 + 1)))
    else
      some (.inr (true))
  ) (a, b, 0)
noncomputable def sL1IntsFS : Fsp := ⟨26, [slF .int, slF .int], [shF .bool], true, false, fun x => sL1Ints x.1 x.2⟩
noncomputable def sL16Same (a : GRead) (b : GRead) : Option (Bool) :=
  bif (a.kind == b.kind) then
    bif (a.n == b.n) then
      bif (a.text == b.text) then
        some ((a.time == b.time))
      else
        some (false)
    else
      some (false)
  else
    some (false)
noncomputable def sL16SameFS : Fsp := ⟨44, [shT .read, shT .read], [shF .bool], true, false, fun x => sL16Same x.1 x.2⟩
noncomputable def sL3Texts (a : List Str) (b : List Str) : Option (Bool) :=
  bif ((a.length : Int) != (b.length : Int)) then
    some (false)
  else
  loopD (fun (x1 : (List Str) × (List Str) × Int) =>
    bif (decide (x1.2.2 < (x1.1.length : Int))) then
      (idx x1.1 x1.2.2).bind fun e2 =>
      (idx x1.2.1 x1.2.2).bind fun e3 =>
      bif (!(e2 == e3)) then
        some (.inr (false))
      else
        some (.inl (x1.1, x1.2.1, w64 (x1.2.2 + 1)))
    else
      some (.inr (true))
  ) (a, b, 0)
noncomputable def sL3TextsFS : Fsp := ⟨69, [slF .str, slF .str], [shF .bool], true, false, fun x => sL3Texts x.1 x.2⟩
noncomputable def sL3Origins (a : List GOrigin) (b : List GOrigin) : Option (Bool) :=
  bif ((a.length : Int) != (b.length : Int)) then
    some (false)
  else
  loopD (fun (x1 : (List GOrigin) × (List GOrigin) × Int) =>
    bif (decide (x1.2.2 < (x1.1.length : Int))) then
      (idx x1.1 x1.2.2).bind fun e2 =>
      (idx x1.2.1 x1.2.2).bind fun e3 =>
      bif (!((e2.cell == e3.cell) && (e2.row == e3.row))) then
        some (.inr (false))
      else
        some (.inl (x1.1, x1.2.1, w64 (x1.2.2 + 1)))
    else
      some (.inr (true))
  ) (a, b, 0)
noncomputable def sL3OriginsFS : Fsp := ⟨70, [slF .origin, slF .origin], [shF .bool], true, false, fun x => sL3Origins x.1 x.2⟩
noncomputable def sL3SameB (rsL3Same : GVal → GVal → Bool → Option (Bool)) (a : GVal) (b : GVal) (c : Bool) : Option (Bool) :=
  bif (a.kind != b.kind) then
    some (false)
  else
  bif (a.n != b.n) then
    some (false)
  else
  bif (a.step != b.step) then
    some (false)
  else
  bif (!(a.text == b.text)) then
    some (false)
  else
  bif ((a.list.length : Int) != (b.list.length : Int)) then
    some (false)
  else
  (sL3Texts a.columns b.columns).bind fun r1 =>
  bif (!r1) then
    some (false)
  else
  bif ((a.rows.length : Int) != (b.rows.length : Int)) then
    some (false)
  else
  loopD (fun (x2 : Bool × Int × Int × Int × Str × (List GVal) × (List Str) × (List GRow) × Int × Int × Int × Str × (List GVal) × (List Str) × (List GRow) × Int) =>
    bif (decide (x2.2.2.2.2.2.2.2.2.2.2.2.2.2.2.2 < (x2.2.2.2.2.2.1.length : Int))) then
      (idx x2.2.2.2.2.2.1 x2.2.2.2.2.2.2.2.2.2.2.2.2.2.2.2).bind fun e3 =>
      (idx x2.2.2.2.2.2.2.2.2.2.2.2.2.1 x2.2.2.2.2.2.2.2.2.2.2.2.2.2.2.2).bind fun e4 =>
      (rsL3Same (reVal e3) (reVal e4) x2.1).bind fun r5 =>
      bif (!r5) then
        some (.inr (false))
      else
        some (.inl (x2.1, x2.2.1, x2.2.2.1, x2.2.2.2.1, x2.2.2.2.2.1, x2.2.2.2.2.2.1, x2.2.2.2.2.2.2.1, x2.2.2.2.2.2.2.2.1, x2.2.2.2.2.2.2.2.2.1, x2.2.2.2.2.2.2.2.2.2.1, x2.2.2.2.2.2.2.2.2.2.2.1, x2.2.2.2.2.2.2.2.2.2.2.2.1, x2.2.2.2.2.2.2.2.2.2.2.2.2.1, x2.2.2.2.2.2.2.2.2.2.2.2.2.2.1, x2.2.2.2.2.2.2.2.2.2.2.2.2.2.2.1, w64 (x2.2.2.2.2.2.2.2.2.2.2.2.2.2.2.2 + 1)))
    else
    (
      loopD (fun (x6 : Bool × Int × Int × Int × Str × (List GVal) × (List Str) × (List GRow) × Int × Int × Int × Str × (List GVal) × (List Str) × (List GRow) × Int) =>
        bif (decide (x6.2.2.2.2.2.2.2.2.2.2.2.2.2.2.2 < (x6.2.2.2.2.2.2.2.1.length : Int))) then
          (idx x6.2.2.2.2.2.2.2.1 x6.2.2.2.2.2.2.2.2.2.2.2.2.2.2.2).bind fun e7 =>
          (idx x6.2.2.2.2.2.2.2.2.2.2.2.2.2.2.1 x6.2.2.2.2.2.2.2.2.2.2.2.2.2.2.2).bind fun e8 =>
          (sL1Ints e7.cells e8.cells).bind fun r9 =>
          bif (!r9) then
            some (.inr (false))
          else
          bif x6.1 then
            (idx x6.2.2.2.2.2.2.2.1 x6.2.2.2.2.2.2.2.2.2.2.2.2.2.2.2).bind fun e10 =>
            (idx x6.2.2.2.2.2.2.2.2.2.2.2.2.2.2.1 x6.2.2.2.2.2.2.2.2.2.2.2.2.2.2.2).bind fun e11 =>
            (sL3Origins e10.orig e11.orig).bind fun r12 =>
            bif (!r12) then
              some (.inr (false))
            else
              some (.inl (x6.1, x6.2.1, x6.2.2.1, x6.2.2.2.1, x6.2.2.2.2.1, x6.2.2.2.2.2.1, x6.2.2.2.2.2.2.1, x6.2.2.2.2.2.2.2.1, x6.2.2.2.2.2.2.2.2.1, x6.2.2.2.2.2.2.2.2.2.1, x6.2.2.2.2.2.2.2.2.2.2.1, x6.2.2.2.2.2.2.2.2.2.2.2.1, x6.2.2.2.2.2.2.2.2.2.2.2.2.1, x6.2.2.2.2.2.2.2.2.2.2.2.2.2.1, x6.2.2.2.2.2.2.2.2.2.2.2.2.2.2.1, w64 (x6.2.2.2.2.2.2.2.2.2.2.2.2.2.2.2 + 1)))
          else
            some (.inl (x6.1, x6.2.1, x6.2.2.1, x6.2.2.2.1, x6.2.2.2.2.1, x6.2.2.2.2.2.1, x6.2.2.2.2.2.2.1, x6.2.2.2.2.2.2.2.1, x6.2.2.2.2.2.2.2.2.1, x6.2.2.2.2.2.2.2.2.2.1, x6.2.2.2.2.2.2.2.2.2.2.1, x6.2.2.2.2.2.2.2.2.2.2.2.1, x6.2.2.2.2.2.2.2.2.2.2.2.2.1, x6.2.2.2.2.2.2.2.2.2.2.2.2.2.1, x6.2.2.2.2.2.2.2.2.2.2.2.2.2.2.1, w64 (x6.2.2.2.2.2.2.2.2.2.2.2.2.2.2.2 + 1)))
        else
          some (.inr (true))
      ) (x2.1, x2.2.1, x2.2.2.1, x2.2.2.2.1, x2.2.2.2.2.1, x2.2.2.2.2.2.1, x2.2.2.2.2.2.2.1, x2.2.2.2.2.2.2.2.1, x2.2.2.2.2.2.2.2.2.1, x2.2.2.2.2.2.2.2.2.2.1, x2.2.2.2.2.2.2.2.2.2.2.1, x2.2.2.2.2.2.2.2.2.2.2.2.1, x2.2.2.2.2.2.2.2.2.2.2.2.2.1, x2.2.2.2.2.2.2.2.2.2.2.2.2.2.1, x2.2.2.2.2.2.2.2.2.2.2.2.2.2.2.1, 0)
    ).bind fun r => some (.inr r)
  ) (c, a.kind, a.n, a.step, a.text, a.list, a.columns, a.rows, b.kind, b.n, b.step, b.text, b.list, b.columns, b.rows, 0)
noncomputable def sL3SameG : Nat → (GVal → GVal → Bool → Option (Bool))
  | 0 => fun _ _ _ => none
  | n + 1 => sL3SameB (sL3SameG n)
noncomputable def sL3Same (a : GVal) (b : GVal) (c : Bool) : Option (Bool) := (sL3SameG (siz a + siz b + 1)) a b c
noncomputable def sL3SameFS : Fsp := ⟨59, [shT .val, shT .val, shF .bool], [shF .bool], true, false, fun x => sL3Same x.1 x.2.1 x.2.2⟩
noncomputable def sL3SameFSN (n : Nat) : Fsp := ⟨59, [shT .val, shT .val, shF .bool], [shF .bool], true, false, fun x => (sL3SameG n) x.1 x.2.1 x.2.2⟩
noncomputable def sEqualValue (a : GVal) (b : GVal) : Option (Bool) :=
  (sL3Same (reVal a) (reVal b) true).bind fun r1 =>
  some (r1)
noncomputable def sEqualValueFS : Fsp := ⟨45, [shT .val, shT .val], [shF .bool], true, false, fun x => sEqualValue x.1 x.2⟩
noncomputable def sL41Same (a : List GRead) (b : List GRead) : Option (Bool) :=
  bif ((a.length : Int) != (b.length : Int)) then
    some (false)
  else
  loopD (fun (x1 : (List GRead) × (List GRead) × Int) =>
    bif (decide (x1.2.2 < (x1.1.length : Int))) then
      (idx x1.1 x1.2.2).bind fun e2 =>
      (idx x1.2.1 x1.2.2).bind fun e3 =>
      (sL16Same (reRead e2) (reRead e3)).bind fun r4 =>
      bif (!r4) then
        some (.inr (false))
      else
        (idx x1.1 x1.2.2).bind fun e5 =>
        (idx x1.2.1 x1.2.2).bind fun e6 =>
        (sEqualValue (reVal e5.result) (reVal e6.result)).bind fun r7 =>
        bif (!r7) then
          some (.inr (false))
        else
          some (.inl (x1.1, x1.2.1, w64 (x1.2.2 + 1)))
    else
      some (.inr (true))
  ) (a, b, 0)
noncomputable def sL41SameFS : Fsp := ⟨27, [slF .read, slF .read], [shF .bool], true, false, fun x => sL41Same x.1 x.2⟩
noncomputable def sEqualOp (a : GOp) (b : GOp) : Option (Bool) :=
  bif (a.time != b.time) then
    some (false)
  else
  bif (a.by_ != b.by_) then
    some (false)
  else
  bif (a.kind != b.kind) then
    some (false)
  else
  (sL1Ints a.seen b.seen).bind fun r1 =>
  bif (!r1) then
    some (false)
  else
  bif (!((a.edit.kind == b.edit.kind) && ((a.edit.pos == b.edit.pos) && ((a.edit.cell.id == b.edit.cell.id) && ((a.edit.cell.version == b.edit.cell.version) && ((a.edit.cell.kind == b.edit.cell.kind) && ((a.edit.cell.name == b.edit.cell.name) && ((a.edit.cell.code == b.edit.cell.code) && (a.edit.cell.n == b.edit.cell.n))))))))) then
    some (false)
  else
  bif (a.src == b.src) then
    bif (a.dst == b.dst) then
      bif (a.cell == b.cell) then
        bif (a.version == b.version) then
          (sL41Same a.reads b.reads).bind fun r2 =>
          some (r2)
        else
          some (false)
      else
        some (false)
    else
      some (false)
  else
    some (false)
noncomputable def sEqualOpFS : Fsp := ⟨10, [shT .op, shT .op], [shF .bool], true, false, fun x => sEqualOp x.1 x.2⟩
noncomputable def sameOps (a : List GOp) (b : List GOp) : Option (Bool) :=
  bif ((a.length : Int) != (b.length : Int)) then
    some (false)
  else
  loopD (fun (x1 : (List GOp) × (List GOp) × Int) =>
    bif (decide (x1.2.2 < (x1.1.length : Int))) then
      (idx x1.1 x1.2.2).bind fun e2 =>
      (idx x1.2.1 x1.2.2).bind fun e3 =>
      (sEqualOp e2 e3).bind fun r4 =>
      bif (!r4) then
        some (.inr (false))
      else
        some (.inl (x1.1, x1.2.1, w64 (x1.2.2 + 1)))
    else
      some (.inr (true))
  ) (a, b, 0)
noncomputable def sameOpsFS : Fsp := ⟨8, [slF .op, slF .op], [shF .bool], true, false, fun x => sameOps x.1 x.2⟩
noncomputable def sHasSeen (a : GOp) (b : List GOp) (c : Int) : Option (Bool) :=
  (sL1In c 0 (w64 ((b.length : Int) - 1))).bind fun r1 =>
  bif (!r1) then
    some (false)
  else
  (idx b c).bind fun e2 =>
  (sL1In e2.by_ 0 (w64 ((a.seen.length : Int) - 1))).bind fun r3 =>
  bif (!r3) then
    some (false)
  else
    (eff.cutL b none (some c)).bind fun r4 =>
    (idx b c).bind fun e5 =>
    (sCountBy r4 e5.by_).bind fun r6 =>
    (idx b c).bind fun e7 =>
    (idx a.seen e7.by_).bind fun e8 =>
    some ((decide (r6 < e8)))
noncomputable def sHasSeenFS : Fsp := ⟨11, [shT .op, slF .op, shF .int], [shF .bool], true, false, fun x => sHasSeen x.1 x.2.1 x.2.2⟩
noncomputable def iMissingOps (a : GReplica) (b : List Int) : Option ((List GOp)) :=
  loopD (fun (x1 : (List Int) × Int × (List GOp) × (List GOp) × (List GOp) × Int × Int) =>
    bif (decide (x1.2.2.2.2.2.2 < x1.2.2.2.2.2.1)) then
      (idx x1.2.2.2.2.1 x1.2.2.2.2.2.2).bind fun e2 =>
      bif (decide (e2.by_ ≥ 0)) then
        bif (decide (e2.by_ < (x1.1.length : Int))) then
          (eff.cutL x1.2.2.1 none (some x1.2.2.2.2.2.2)).bind fun r3 =>
          (iCountBy r3 e2.by_).bind fun r4 =>
          (idx x1.1 e2.by_).bind fun e5 =>
          bif (!(decide (r4 < e5))) then
            (iCopyOp e2).bind fun r6 =>
            (gd (x1.2.2.2.1.length + [r6].length)).bind fun _ =>
            some (.inl (x1.1, x1.2.1, x1.2.2.1, x1.2.2.2.1 ++ [r6], x1.2.2.2.2.1, x1.2.2.2.2.2.1, w64 (x1.2.2.2.2.2.2 + 1)))
          else
            some (.inl (x1.1, x1.2.1, x1.2.2.1, x1.2.2.2.1, x1.2.2.2.2.1, x1.2.2.2.2.2.1, w64 (x1.2.2.2.2.2.2 + 1)))
        else
          (iCopyOp e2).bind fun r7 =>
          (gd (x1.2.2.2.1.length + [r7].length)).bind fun _ =>
          some (.inl (x1.1, x1.2.1, x1.2.2.1, x1.2.2.2.1 ++ [r7], x1.2.2.2.2.1, x1.2.2.2.2.2.1, w64 (x1.2.2.2.2.2.2 + 1)))
      else
        (iCopyOp e2).bind fun r8 =>
        (gd (x1.2.2.2.1.length + [r8].length)).bind fun _ =>
        some (.inl (x1.1, x1.2.1, x1.2.2.1, x1.2.2.2.1 ++ [r8], x1.2.2.2.2.1, x1.2.2.2.2.2.1, w64 (x1.2.2.2.2.2.2 + 1)))
    else
      some (.inr (x1.2.2.2.1))
  ) (b, a.id, a.ops, [], a.ops, (a.ops.length : Int), 0)
noncomputable def iMissingOpsFS : Fsp := ⟨12, [shT .replica, slF .int], [slF .op], true, false, fun x => iMissingOps x.1 x.2⟩
noncomputable def FnAddedOps (a : List Int) : Option (Bool) :=
  (big a).bind fun r1 =>
  bif r1 then
    some (true)
  else
  (sDrawAddOp a).bind fun r2 =>
  (iAddOp r2.1 r2.2).bind fun r3 =>
  (sAddOp r2.1 r2.2).bind fun r4 =>
  bif (!(r3.2 == r4.2)) then
    some (false)
  else
  bif (!r3.2) then
    (sameOps r3.1.ops r2.1.ops).bind fun r5 =>
    bif r5 then
      some ((r3.1.id == r2.1.id))
    else
      some (false)
  else
  (idx r3.1.ops (r2.1.ops.length : Int)).bind fun _ =>
  (r3.1.ops[(r2.1.ops.length : Int).toNat]?).bind fun e7 =>
  loopD (fun (x8 : Int × (List GOp) × Int × Int × Int × (List Int) × Int × Int × Int × Int × Int × Str × Str × Int × Str × Str × Int × Int × (List GRead) × Int × (List GOp) × Int × Int × Int × Int × (List Int) × Int × Int × Int × Int × Int × Str × Str × Int × Str × Str × Int × Int × (List GRead) × Int) =>
    bif (decide (x8.2.2.2.2.2.2.2.2.2.2.2.2.2.2.2.2.2.2.2.2.2.2.2.2.2.2.2.2.2.2.2.2.2.2.2.2.2.2.2 < x8.2.2.2.2.2.2.2.2.2.2.2.2.2.2.2.2.2.2.2.2.2.1)) then
      (idx x8.2.1 x8.2.2.2.2.2.2.2.2.2.2.2.2.2.2.2.2.2.2.2.2.2.2.2.2.2.2.2.2.2.2.2.2.2.2.2.2.2.2.2).bind fun e9 =>
      (sOpBefore e9 (GOp.mk x8.2.2.2.2.2.2.2.2.2.2.2.2.2.2.2.2.2.2.2.2.2.2.1 x8.2.2.2.2.2.2.2.2.2.2.2.2.2.2.2.2.2.2.2.2.2.2.2.1 x8.2.2.2.2.2.2.2.2.2.2.2.2.2.2.2.2.2.2.2.2.2.2.2.2.1 x8.2.2.2.2.2.2.2.2.2.2.2.2.2.2.2.2.2.2.2.2.2.2.2.2.2.1 (GEdit.mk x8.2.2.2.2.2.2.2.2.2.2.2.2.2.2.2.2.2.2.2.2.2.2.2.2.2.2.1 x8.2.2.2.2.2.2.2.2.2.2.2.2.2.2.2.2.2.2.2.2.2.2.2.2.2.2.2.1 (GCell.mk x8.2.2.2.2.2.2.2.2.2.2.2.2.2.2.2.2.2.2.2.2.2.2.2.2.2.2.2.2.1 x8.2.2.2.2.2.2.2.2.2.2.2.2.2.2.2.2.2.2.2.2.2.2.2.2.2.2.2.2.2.1 x8.2.2.2.2.2.2.2.2.2.2.2.2.2.2.2.2.2.2.2.2.2.2.2.2.2.2.2.2.2.2.1 x8.2.2.2.2.2.2.2.2.2.2.2.2.2.2.2.2.2.2.2.2.2.2.2.2.2.2.2.2.2.2.2.1 x8.2.2.2.2.2.2.2.2.2.2.2.2.2.2.2.2.2.2.2.2.2.2.2.2.2.2.2.2.2.2.2.2.1 x8.2.2.2.2.2.2.2.2.2.2.2.2.2.2.2.2.2.2.2.2.2.2.2.2.2.2.2.2.2.2.2.2.2.1)) x8.2.2.2.2.2.2.2.2.2.2.2.2.2.2.2.2.2.2.2.2.2.2.2.2.2.2.2.2.2.2.2.2.2.2.1 x8.2.2.2.2.2.2.2.2.2.2.2.2.2.2.2.2.2.2.2.2.2.2.2.2.2.2.2.2.2.2.2.2.2.2.2.1 x8.2.2.2.2.2.2.2.2.2.2.2.2.2.2.2.2.2.2.2.2.2.2.2.2.2.2.2.2.2.2.2.2.2.2.2.2.1 x8.2.2.2.2.2.2.2.2.2.2.2.2.2.2.2.2.2.2.2.2.2.2.2.2.2.2.2.2.2.2.2.2.2.2.2.2.2.1 x8.2.2.2.2.2.2.2.2.2.2.2.2.2.2.2.2.2.2.2.2.2.2.2.2.2.2.2.2.2.2.2.2.2.2.2.2.2.2.1)).bind fun r10 =>
      bif (!r10) then
        some (.inr (false))
      else
      (idx x8.2.1 x8.2.2.2.2.2.2.2.2.2.2.2.2.2.2.2.2.2.2.2.2.2.2.2.2.2.2.2.2.2.2.2.2.2.2.2.2.2.2.2).bind fun e11 =>
      (idx x8.2.2.2.2.2.2.2.2.2.2.2.2.2.2.2.2.2.2.2.2.1 x8.2.2.2.2.2.2.2.2.2.2.2.2.2.2.2.2.2.2.2.2.2.2.2.2.2.2.2.2.2.2.2.2.2.2.2.2.2.2.2).bind fun _ =>
      (x8.2.2.2.2.2.2.2.2.2.2.2.2.2.2.2.2.2.2.2.2.1[x8.2.2.2.2.2.2.2.2.2.2.2.2.2.2.2.2.2.2.2.2.2.2.2.2.2.2.2.2.2.2.2.2.2.2.2.2.2.2.2.toNat]?).bind fun e13 =>
      (sEqualOp e11 e13).bind fun r14 =>
      bif (!r14) then
        some (.inr (false))
      else
        (sHasSeen (GOp.mk x8.2.2.2.2.2.2.2.2.2.2.2.2.2.2.2.2.2.2.2.2.2.2.1 x8.2.2.2.2.2.2.2.2.2.2.2.2.2.2.2.2.2.2.2.2.2.2.2.1 x8.2.2.2.2.2.2.2.2.2.2.2.2.2.2.2.2.2.2.2.2.2.2.2.2.1 x8.2.2.2.2.2.2.2.2.2.2.2.2.2.2.2.2.2.2.2.2.2.2.2.2.2.1 (GEdit.mk x8.2.2.2.2.2.2.2.2.2.2.2.2.2.2.2.2.2.2.2.2.2.2.2.2.2.2.1 x8.2.2.2.2.2.2.2.2.2.2.2.2.2.2.2.2.2.2.2.2.2.2.2.2.2.2.2.1 (GCell.mk x8.2.2.2.2.2.2.2.2.2.2.2.2.2.2.2.2.2.2.2.2.2.2.2.2.2.2.2.2.1 x8.2.2.2.2.2.2.2.2.2.2.2.2.2.2.2.2.2.2.2.2.2.2.2.2.2.2.2.2.2.1 x8.2.2.2.2.2.2.2.2.2.2.2.2.2.2.2.2.2.2.2.2.2.2.2.2.2.2.2.2.2.2.1 x8.2.2.2.2.2.2.2.2.2.2.2.2.2.2.2.2.2.2.2.2.2.2.2.2.2.2.2.2.2.2.2.1 x8.2.2.2.2.2.2.2.2.2.2.2.2.2.2.2.2.2.2.2.2.2.2.2.2.2.2.2.2.2.2.2.2.1 x8.2.2.2.2.2.2.2.2.2.2.2.2.2.2.2.2.2.2.2.2.2.2.2.2.2.2.2.2.2.2.2.2.2.1)) x8.2.2.2.2.2.2.2.2.2.2.2.2.2.2.2.2.2.2.2.2.2.2.2.2.2.2.2.2.2.2.2.2.2.2.1 x8.2.2.2.2.2.2.2.2.2.2.2.2.2.2.2.2.2.2.2.2.2.2.2.2.2.2.2.2.2.2.2.2.2.2.2.1 x8.2.2.2.2.2.2.2.2.2.2.2.2.2.2.2.2.2.2.2.2.2.2.2.2.2.2.2.2.2.2.2.2.2.2.2.2.1 x8.2.2.2.2.2.2.2.2.2.2.2.2.2.2.2.2.2.2.2.2.2.2.2.2.2.2.2.2.2.2.2.2.2.2.2.2.2.1 x8.2.2.2.2.2.2.2.2.2.2.2.2.2.2.2.2.2.2.2.2.2.2.2.2.2.2.2.2.2.2.2.2.2.2.2.2.2.2.1) x8.2.2.2.2.2.2.2.2.2.2.2.2.2.2.2.2.2.2.2.2.1 x8.2.2.2.2.2.2.2.2.2.2.2.2.2.2.2.2.2.2.2.2.2.2.2.2.2.2.2.2.2.2.2.2.2.2.2.2.2.2.2).bind fun r15 =>
        bif (!r15) then
          some (.inr (false))
        else
          some (.inl (x8.1, x8.2.1, x8.2.2.1, x8.2.2.2.1, x8.2.2.2.2.1, x8.2.2.2.2.2.1, x8.2.2.2.2.2.2.1, x8.2.2.2.2.2.2.2.1, x8.2.2.2.2.2.2.2.2.1, x8.2.2.2.2.2.2.2.2.2.1, x8.2.2.2.2.2.2.2.2.2.2.1, x8.2.2.2.2.2.2.2.2.2.2.2.1, x8.2.2.2.2.2.2.2.2.2.2.2.2.1, x8.2.2.2.2.2.2.2.2.2.2.2.2.2.1, x8.2.2.2.2.2.2.2.2.2.2.2.2.2.2.1, x8.2.2.2.2.2.2.2.2.2.2.2.2.2.2.2.1, x8.2.2.2.2.2.2.2.2.2.2.2.2.2.2.2.2.1, x8.2.2.2.2.2.2.2.2.2.2.2.2.2.2.2.2.2.1, x8.2.2.2.2.2.2.2.2.2.2.2.2.2.2.2.2.2.2.1, x8.2.2.2.2.2.2.2.2.2.2.2.2.2.2.2.2.2.2.2.1, x8.2.2.2.2.2.2.2.2.2.2.2.2.2.2.2.2.2.2.2.2.1, x8.2.2.2.2.2.2.2.2.2.2.2.2.2.2.2.2.2.2.2.2.2.1, x8.2.2.2.2.2.2.2.2.2.2.2.2.2.2.2.2.2.2.2.2.2.2.1, x8.2.2.2.2.2.2.2.2.2.2.2.2.2.2.2.2.2.2.2.2.2.2.2.1, x8.2.2.2.2.2.2.2.2.2.2.2.2.2.2.2.2.2.2.2.2.2.2.2.2.1, x8.2.2.2.2.2.2.2.2.2.2.2.2.2.2.2.2.2.2.2.2.2.2.2.2.2.1, x8.2.2.2.2.2.2.2.2.2.2.2.2.2.2.2.2.2.2.2.2.2.2.2.2.2.2.1, x8.2.2.2.2.2.2.2.2.2.2.2.2.2.2.2.2.2.2.2.2.2.2.2.2.2.2.2.1, x8.2.2.2.2.2.2.2.2.2.2.2.2.2.2.2.2.2.2.2.2.2.2.2.2.2.2.2.2.1, x8.2.2.2.2.2.2.2.2.2.2.2.2.2.2.2.2.2.2.2.2.2.2.2.2.2.2.2.2.2.1, x8.2.2.2.2.2.2.2.2.2.2.2.2.2.2.2.2.2.2.2.2.2.2.2.2.2.2.2.2.2.2.1, x8.2.2.2.2.2.2.2.2.2.2.2.2.2.2.2.2.2.2.2.2.2.2.2.2.2.2.2.2.2.2.2.1, x8.2.2.2.2.2.2.2.2.2.2.2.2.2.2.2.2.2.2.2.2.2.2.2.2.2.2.2.2.2.2.2.2.1, x8.2.2.2.2.2.2.2.2.2.2.2.2.2.2.2.2.2.2.2.2.2.2.2.2.2.2.2.2.2.2.2.2.2.1, x8.2.2.2.2.2.2.2.2.2.2.2.2.2.2.2.2.2.2.2.2.2.2.2.2.2.2.2.2.2.2.2.2.2.2.1, x8.2.2.2.2.2.2.2.2.2.2.2.2.2.2.2.2.2.2.2.2.2.2.2.2.2.2.2.2.2.2.2.2.2.2.2.1, x8.2.2.2.2.2.2.2.2.2.2.2.2.2.2.2.2.2.2.2.2.2.2.2.2.2.2.2.2.2.2.2.2.2.2.2.2.1, x8.2.2.2.2.2.2.2.2.2.2.2.2.2.2.2.2.2.2.2.2.2.2.2.2.2.2.2.2.2.2.2.2.2.2.2.2.2.1, x8.2.2.2.2.2.2.2.2.2.2.2.2.2.2.2.2.2.2.2.2.2.2.2.2.2.2.2.2.2.2.2.2.2.2.2.2.2.2.1, w64 (x8.2.2.2.2.2.2.2.2.2.2.2.2.2.2.2.2.2.2.2.2.2.2.2.2.2.2.2.2.2.2.2.2.2.2.2.2.2.2.2 + 1)))
    else
      (
        bif (x8.2.2.2.2.2.2.2.2.2.2.2.2.2.2.2.2.2.2.2.2.2.2.2.1 == x8.1) then
          bif (x8.2.2.2.2.2.2.2.2.2.2.2.2.2.2.2.2.2.2.2.2.2.2.2.2.1 == x8.2.2.2.2.1) then
            (iSeenBy (GReplica.mk x8.1 x8.2.1)).bind fun r16 =>
            (iMissingOps (GReplica.mk x8.2.2.2.2.2.2.2.2.2.2.2.2.2.2.2.2.2.2.2.1 x8.2.2.2.2.2.2.2.2.2.2.2.2.2.2.2.2.2.2.2.2.1) r16).bind fun r17 =>
            some (((r17.length : Int) == 1))
          else
            some (false)
        else
          some (false)
      ).bind fun r => some (.inr r)
  ) (r2.1.id, r2.1.ops, r2.2.time, r2.2.by_, r2.2.kind, r2.2.seen, r2.2.edit.kind, r2.2.edit.pos, r2.2.edit.cell.id, r2.2.edit.cell.version, r2.2.edit.cell.kind, r2.2.edit.cell.name, r2.2.edit.cell.code, r2.2.edit.cell.n, r2.2.src, r2.2.dst, r2.2.cell, r2.2.version, r2.2.reads, r3.1.id, r3.1.ops, (r2.1.ops.length : Int), e7.time, e7.by_, e7.kind, e7.seen, e7.edit.kind, e7.edit.pos, e7.edit.cell.id, e7.edit.cell.version, e7.edit.cell.kind, e7.edit.cell.name, e7.edit.cell.code, e7.edit.cell.n, e7.src, e7.dst, e7.cell, e7.version, e7.reads, 0)
noncomputable def FnAddedOpsFS : Fsp := ⟨3, [slF .u8], [shF .bool], true, false, fun x => FnAddedOps x⟩
end Go.Proofs.YtjpmhfhcbehgcaaGreat
