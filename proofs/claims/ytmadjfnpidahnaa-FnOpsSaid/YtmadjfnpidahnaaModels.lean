/- What the functions compute, by gen.py. -/
import Derived.Test.YtmadjfnpidahnaaTabs
namespace Go.Proofs.Ytmadjfnpidahnaa
open Go.Abs Go.Proofs
set_option linter.unusedVariables false
abbrev siz {α : Type} [SizeOf α] (x : α) : Nat := SizeOf.sizeOf x
abbrev w64 (n : Int) : Int := IntKind.i64.wrap n
abbrev w8 (n : Int) : Int := IntKind.u8.wrap n
noncomputable def big (a : List Int) : Option (Bool) :=
  some ((decide ((a.length : Int) > 1048576)))
noncomputable def bigFS : Fsp := { fid := 8, ps := [⟨false, .list (.base .u8)⟩], rs := [⟨false, .base .bool⟩], ex := true, fn := fun x => big x }
noncomputable def sL1New (a : List Int) : Option (GCur) :=
  loopD (fun (x1 : (List Int) × Int × Int) =>
    bif (decide (x1.2.2 < (x1.1.length : Int))) then
      bif (decide (x1.2.2 < 4000)) then
        (idx x1.1 x1.2.2).bind fun e2 =>
        some (.inl (x1.1, w64 (((BitVec.ofInt 64 (w64 ((w64 ((w64 (x1.2.1 * 131)) + (w64 (e2)))) + 7)) &&& BitVec.ofInt 64 1073741823).toNat : Int)), w64 (x1.2.2 + 1)))
      else
        some (.inr (GCur.mk x1.1 0 x1.2.1))
    else
      some (.inr (GCur.mk x1.1 0 x1.2.1))
  ) (a, w64 (26583 + (a.length : Int)), 0)
noncomputable def sL1NewFS : Fsp := { fid := 47, ps := [⟨false, .list (.base .u8)⟩], rs := [⟨true, .base .cur⟩], ex := false, fn := fun x => sL1New x }
noncomputable def sOpBefore (a : GOp) (b : GOp) : Option (Bool) :=
  bif (decide (a.time < b.time)) then
    some (true)
  else
    bif (a.time == b.time) then
      some ((decide (a.by_ < b.by_)))
    else
      some (false)
noncomputable def sOpBeforeFS : Fsp := { fid := 15, ps := [⟨true, .base .op⟩, ⟨true, .base .op⟩], rs := [⟨false, .base .bool⟩], ex := true, fn := fun x => sOpBefore x.1 x.2 }
noncomputable def sL42Place (a : List GOp) (b : GOp) : Option (Int) :=
  loopD (fun (x1 : (List GOp) × Int × Int × Int × (List Int) × Int × Int × Int × Int × Int × Str × Str × Int × Str × Str × Int × Int × (List GRead) × Int) =>
    bif (decide (x1.2.2.2.2.2.2.2.2.2.2.2.2.2.2.2.2.2.2 < (x1.1.length : Int))) then
      (idx x1.1 x1.2.2.2.2.2.2.2.2.2.2.2.2.2.2.2.2.2.2).bind fun e2 =>
      bif (e2.time == x1.2.1) then
        (idx x1.1 x1.2.2.2.2.2.2.2.2.2.2.2.2.2.2.2.2.2.2).bind fun e3 =>
        bif (e3.by_ == x1.2.2.1) then
          some (.inr (x1.2.2.2.2.2.2.2.2.2.2.2.2.2.2.2.2.2.2))
        else
          some (.inl (x1.1, x1.2.1, x1.2.2.1, x1.2.2.2.1, x1.2.2.2.2.1, x1.2.2.2.2.2.1, x1.2.2.2.2.2.2.1, x1.2.2.2.2.2.2.2.1, x1.2.2.2.2.2.2.2.2.1, x1.2.2.2.2.2.2.2.2.2.1, x1.2.2.2.2.2.2.2.2.2.2.1, x1.2.2.2.2.2.2.2.2.2.2.2.1, x1.2.2.2.2.2.2.2.2.2.2.2.2.1, x1.2.2.2.2.2.2.2.2.2.2.2.2.2.1, x1.2.2.2.2.2.2.2.2.2.2.2.2.2.2.1, x1.2.2.2.2.2.2.2.2.2.2.2.2.2.2.2.1, x1.2.2.2.2.2.2.2.2.2.2.2.2.2.2.2.2.1, x1.2.2.2.2.2.2.2.2.2.2.2.2.2.2.2.2.2.1, w64 (x1.2.2.2.2.2.2.2.2.2.2.2.2.2.2.2.2.2.2 + 1)))
      else
        some (.inl (x1.1, x1.2.1, x1.2.2.1, x1.2.2.2.1, x1.2.2.2.2.1, x1.2.2.2.2.2.1, x1.2.2.2.2.2.2.1, x1.2.2.2.2.2.2.2.1, x1.2.2.2.2.2.2.2.2.1, x1.2.2.2.2.2.2.2.2.2.1, x1.2.2.2.2.2.2.2.2.2.2.1, x1.2.2.2.2.2.2.2.2.2.2.2.1, x1.2.2.2.2.2.2.2.2.2.2.2.2.1, x1.2.2.2.2.2.2.2.2.2.2.2.2.2.1, x1.2.2.2.2.2.2.2.2.2.2.2.2.2.2.1, x1.2.2.2.2.2.2.2.2.2.2.2.2.2.2.2.1, x1.2.2.2.2.2.2.2.2.2.2.2.2.2.2.2.2.1, x1.2.2.2.2.2.2.2.2.2.2.2.2.2.2.2.2.2.1, w64 (x1.2.2.2.2.2.2.2.2.2.2.2.2.2.2.2.2.2.2 + 1)))
    else
      some (.inr ((-1)))
  ) (a, b.time, b.by_, b.kind, b.seen, b.edit.kind, b.edit.pos, b.edit.cell.id, b.edit.cell.version, b.edit.cell.kind, b.edit.cell.name, b.edit.cell.code, b.edit.cell.n, b.src, b.dst, b.cell, b.version, b.reads, 0)
noncomputable def sL42PlaceFS : Fsp := { fid := 83, ps := [⟨false, .list (.base .op)⟩, ⟨true, .base .op⟩], rs := [⟨false, .base .int⟩], ex := true, fn := fun x => sL42Place x.1 x.2 }
noncomputable def sL3Row (a : GRow) : Option (GRow) :=
  (gd (0 + a.cells.length)).bind fun _ =>
  (gd (0 + a.orig.length)).bind fun _ =>
  some (GRow.mk ([] ++ a.cells) ([] ++ a.orig))
noncomputable def sL3RowFS : Fsp := { fid := 212, ps := [⟨true, .base .row⟩], rs := [⟨true, .base .row⟩], ex := true, fn := fun x => sL3Row x }
noncomputable def sL3CopyB (rsL3Copy : GVal → Option (GVal)) (a : GVal) : Option (GVal) :=
  (gd (0 + a.columns.length)).bind fun _ =>
  loopD (fun (x1 : Int × Int × Int × Str × (List GVal) × (List Str) × (List GRow) × Int × Int × Int × Str × (List GVal) × (List Str) × (List GRow) × Int × Int × Int × Str × (List GVal) × (List Str) × (List GRow) × Int) =>
    bif (decide (x1.2.2.2.2.2.2.2.2.2.2.2.2.2.2.2.2.2.2.2.2.2 < (x1.2.2.2.2.1.length : Int))) then
      (idx x1.2.2.2.2.1 x1.2.2.2.2.2.2.2.2.2.2.2.2.2.2.2.2.2.2.2.2.2).bind fun e2 =>
      (rsL3Copy (reVal e2)).bind fun r3 =>
      (gd (x1.2.2.2.2.2.2.2.2.2.2.2.2.2.2.2.2.2.2.1.length + [reVal r3].length)).bind fun _ =>
      some (.inl (x1.1, x1.2.1, x1.2.2.1, x1.2.2.2.1, x1.2.2.2.2.1, x1.2.2.2.2.2.1, x1.2.2.2.2.2.2.1, x1.2.2.2.2.2.2.2.1, x1.2.2.2.2.2.2.2.2.1, x1.2.2.2.2.2.2.2.2.2.1, x1.2.2.2.2.2.2.2.2.2.2.1, x1.2.2.2.2.2.2.2.2.2.2.2.1, x1.2.2.2.2.2.2.2.2.2.2.2.2.1, x1.2.2.2.2.2.2.2.2.2.2.2.2.2.1, x1.2.2.2.2.2.2.2.2.2.2.2.2.2.2.1, x1.2.2.2.2.2.2.2.2.2.2.2.2.2.2.2.1, x1.2.2.2.2.2.2.2.2.2.2.2.2.2.2.2.2.1, x1.2.2.2.2.2.2.2.2.2.2.2.2.2.2.2.2.2.1, x1.2.2.2.2.2.2.2.2.2.2.2.2.2.2.2.2.2.2.1 ++ [reVal r3], x1.2.2.2.2.2.2.2.2.2.2.2.2.2.2.2.2.2.2.2.1, x1.2.2.2.2.2.2.2.2.2.2.2.2.2.2.2.2.2.2.2.2.1, w64 (x1.2.2.2.2.2.2.2.2.2.2.2.2.2.2.2.2.2.2.2.2.2 + 1)))
    else
      (
        loopD (fun (x4 : Int × Int × Int × Str × (List GVal) × (List Str) × (List GRow) × Int × Int × Int × Str × (List GVal) × (List Str) × (List GRow) × Int × Int × Int × Str × (List GVal) × (List Str) × (List GRow) × Int) =>
          bif (decide (x4.2.2.2.2.2.2.2.2.2.2.2.2.2.2.2.2.2.2.2.2.2 < (x4.2.2.2.2.2.2.1.length : Int))) then
            (idx x4.2.2.2.2.2.2.1 x4.2.2.2.2.2.2.2.2.2.2.2.2.2.2.2.2.2.2.2.2.2).bind fun e5 =>
            (sL3Row e5).bind fun r6 =>
            (gd (x4.2.2.2.2.2.2.2.2.2.2.2.2.2.2.2.2.2.2.2.2.1.length + [r6].length)).bind fun _ =>
            some (.inl (x4.1, x4.2.1, x4.2.2.1, x4.2.2.2.1, x4.2.2.2.2.1, x4.2.2.2.2.2.1, x4.2.2.2.2.2.2.1, x4.2.2.2.2.2.2.2.1, x4.2.2.2.2.2.2.2.2.1, x4.2.2.2.2.2.2.2.2.2.1, x4.2.2.2.2.2.2.2.2.2.2.1, x4.2.2.2.2.2.2.2.2.2.2.2.1, x4.2.2.2.2.2.2.2.2.2.2.2.2.1, x4.2.2.2.2.2.2.2.2.2.2.2.2.2.1, x4.2.2.2.2.2.2.2.2.2.2.2.2.2.2.1, x4.2.2.2.2.2.2.2.2.2.2.2.2.2.2.2.1, x4.2.2.2.2.2.2.2.2.2.2.2.2.2.2.2.2.1, x4.2.2.2.2.2.2.2.2.2.2.2.2.2.2.2.2.2.1, x4.2.2.2.2.2.2.2.2.2.2.2.2.2.2.2.2.2.2.1, x4.2.2.2.2.2.2.2.2.2.2.2.2.2.2.2.2.2.2.2.1, x4.2.2.2.2.2.2.2.2.2.2.2.2.2.2.2.2.2.2.2.2.1 ++ [r6], w64 (x4.2.2.2.2.2.2.2.2.2.2.2.2.2.2.2.2.2.2.2.2.2 + 1)))
          else
            some (.inr (GVal.mk x4.2.2.2.2.2.2.2.2.2.2.2.2.2.2.1 x4.2.2.2.2.2.2.2.2.2.2.2.2.2.2.2.1 x4.2.2.2.2.2.2.2.2.2.2.2.2.2.2.2.2.1 x4.2.2.2.2.2.2.2.2.2.2.2.2.2.2.2.2.2.1 x4.2.2.2.2.2.2.2.2.2.2.2.2.2.2.2.2.2.2.1 x4.2.2.2.2.2.2.2.2.2.2.2.2.2.2.2.2.2.2.2.1 x4.2.2.2.2.2.2.2.2.2.2.2.2.2.2.2.2.2.2.2.2.1))
        ) (x1.1, x1.2.1, x1.2.2.1, x1.2.2.2.1, x1.2.2.2.2.1, x1.2.2.2.2.2.1, x1.2.2.2.2.2.2.1, x1.2.2.2.2.2.2.2.1, x1.2.2.2.2.2.2.2.2.1, x1.2.2.2.2.2.2.2.2.2.1, x1.2.2.2.2.2.2.2.2.2.2.1, x1.2.2.2.2.2.2.2.2.2.2.2.1, x1.2.2.2.2.2.2.2.2.2.2.2.2.1, x1.2.2.2.2.2.2.2.2.2.2.2.2.2.1, x1.2.2.2.2.2.2.2.2.2.2.2.2.2.2.1, x1.2.2.2.2.2.2.2.2.2.2.2.2.2.2.2.1, x1.2.2.2.2.2.2.2.2.2.2.2.2.2.2.2.2.1, x1.2.2.2.2.2.2.2.2.2.2.2.2.2.2.2.2.2.1, x1.2.2.2.2.2.2.2.2.2.2.2.2.2.2.2.2.2.2.1, x1.2.2.2.2.2.2.2.2.2.2.2.2.2.2.2.2.2.2.2.1, x1.2.2.2.2.2.2.2.2.2.2.2.2.2.2.2.2.2.2.2.2.1, 0)
      ).bind fun r => some (.inr r)
  ) (a.kind, a.n, a.step, a.text, a.list, a.columns, a.rows, 0, 0, 0, [], [], [], [], a.kind, a.n, a.step, a.text, [], [] ++ a.columns, [], 0)
noncomputable def sL3CopyG : Nat → (GVal → Option (GVal))
  | 0 => fun _ => none
  | n + 1 => sL3CopyB (sL3CopyG n)
noncomputable def sL3Copy (a : GVal) : Option (GVal) := (sL3CopyG (siz a + 1)) a
noncomputable def sL3CopyFS : Fsp := { fid := 192, ps := [⟨true, .base .val⟩], rs := [⟨true, .base .val⟩], ex := true, fn := fun x => sL3Copy x }
noncomputable def sL3CopyFSN (n : Nat) : Fsp := { fid := 192, ps := [⟨true, .base .val⟩], rs := [⟨true, .base .val⟩], ex := true, fn := fun x => (sL3CopyG n) x }
noncomputable def sL16Read (a : GRead) : Option (GRead) :=
  (sL3Copy (reVal a.result)).bind fun r1 =>
  some (GRead.mk a.kind a.n a.time a.text (reVal r1))
noncomputable def sL16ReadFS : Fsp := { fid := 162, ps := [⟨true, .base .read⟩], rs := [⟨true, .base .read⟩], ex := true, fn := fun x => sL16Read x }
noncomputable def sL16Reads (a : List GRead) : Option ((List GRead)) :=
  loopD (fun (x1 : (List GRead) × (List GRead) × Int) =>
    bif (decide (x1.2.2 < (x1.1.length : Int))) then
      (idx x1.1 x1.2.2).bind fun e2 =>
      (sL16Read (reRead e2)).bind fun r3 =>
      (gd (x1.2.1.length + [reRead r3].length)).bind fun _ =>
      some (.inl (x1.1, x1.2.1 ++ [reRead r3], w64 (x1.2.2 + 1)))
    else
      some (.inr (x1.2.1))
  ) (a, [], 0)
noncomputable def sL16ReadsFS : Fsp := { fid := 116, ps := [⟨false, .list (.base .read)⟩], rs := [⟨false, .list (.base .read)⟩], ex := true, fn := fun x => sL16Reads x }
noncomputable def sL41Copy (a : GOp) : Option (GOp) :=
  (gd (0 + a.seen.length)).bind fun _ =>
  (sL16Reads a.reads).bind fun r1 =>
  some (GOp.mk a.time a.by_ a.kind ([] ++ a.seen) a.edit a.src a.dst a.cell a.version r1)
noncomputable def sL41CopyFS : Fsp := { fid := 84, ps := [⟨true, .base .op⟩], rs := [⟨true, .base .op⟩], ex := true, fn := fun x => sL41Copy x }
noncomputable def sMergeOps (a : List GOp) (b : List GOp) : Option ((List GOp)) :=
  (gd (0 + a.length)).bind fun _ =>
  (gd (([] ++ a).length + b.length)).bind fun _ =>
  loopD (fun (x1 : (List GOp) × (List GOp) × Int) =>
    bif (decide (x1.2.2 < (x1.2.1.length : Int))) then
      (idx x1.2.1 x1.2.2).bind fun _ =>
      (x1.2.1[x1.2.2.toNat]?).bind fun e3 =>
      (sL42Place x1.1 e3).bind fun r4 =>
      bif (decide (r4 ≥ 0)) then
        some (.inl (x1.1, x1.2.1, w64 (x1.2.2 + 1)))
      else
      loopD (fun (x5 : (List GOp) × (List GOp) × Int × Int) =>
        bif (decide (x5.2.2.2 < (x5.1.length : Int))) then
          (idx x5.1 x5.2.2.2).bind fun _ =>
          (x5.1[x5.2.2.2.toNat]?).bind fun e7 =>
          (idx x5.2.1 x5.2.2.1).bind fun _ =>
          (x5.2.1[x5.2.2.1.toNat]?).bind fun e9 =>
          (sOpBefore e7 e9).bind fun r10 =>
          bif r10 then
            some (.inl (x5.1, x5.2.1, x5.2.2.1, w64 (x5.2.2.2 + 1)))
          else
          (
            (eff.cutL x5.1 none (some x5.2.2.2)).bind fun r11 =>
            (gd (0 + r11.length)).bind fun _ =>
            (idx x5.2.1 x5.2.2.1).bind fun _ =>
            (x5.2.1[x5.2.2.1.toNat]?).bind fun e13 =>
            (sL41Copy e13).bind fun r14 =>
            (gd (([] ++ r11).length + [r14].length)).bind fun _ =>
            (eff.cutL x5.1 (some x5.2.2.2) none).bind fun r15 =>
            (gd ((([] ++ r11) ++ [r14]).length + r15.length)).bind fun _ =>
            some (.inl ((([] ++ r11) ++ [r14]) ++ r15, x5.2.1, w64 (x5.2.2.1 + 1)))
          ).bind fun r => some (.inr r)
        else
        (
          (eff.cutL x5.1 none (some x5.2.2.2)).bind fun r16 =>
          (gd (0 + r16.length)).bind fun _ =>
          (idx x5.2.1 x5.2.2.1).bind fun _ =>
          (x5.2.1[x5.2.2.1.toNat]?).bind fun e18 =>
          (sL41Copy e18).bind fun r19 =>
          (gd (([] ++ r16).length + [r19].length)).bind fun _ =>
          (eff.cutL x5.1 (some x5.2.2.2) none).bind fun r20 =>
          (gd ((([] ++ r16) ++ [r19]).length + r20.length)).bind fun _ =>
          some (.inl ((([] ++ r16) ++ [r19]) ++ r20, x5.2.1, w64 (x5.2.2.1 + 1)))
        ).bind fun r => some (.inr r)
      ) (x1.1, x1.2.1, x1.2.2, 0)
    else
      some (.inr (x1.1))
  ) ([], ([] ++ a) ++ b, 0)
noncomputable def sMergeOpsFS : Fsp := { fid := 41, ps := [⟨false, .list (.base .op)⟩, ⟨false, .list (.base .op)⟩], rs := [⟨false, .list (.base .op)⟩], ex := false, sh := true, fn := fun x => sMergeOps x.1 x.2 }
noncomputable def sL1Byte (a : GCur) : Option (GCur × Int) :=
  bif (decide (a.i < (a.b.length : Int))) then
    (idx a.b a.i).bind fun e1 =>
    some (GCur.mk a.b (w64 (a.i + 1)) (w64 ((w64 (a.h * 6364136223846793005)) + 1442695040888963407)), w64 (((BitVec.ofInt 64 (w64 ((w64 (((BitVec.ofInt 64 (w64 (((BitVec.ofInt 64 ((w64 ((w64 (a.h * 6364136223846793005)) + 1442695040888963407)).fdiv (2 ^ 33)) ^^^ BitVec.ofInt 64 ((w64 ((w64 (a.h * 6364136223846793005)) + 1442695040888963407)).fdiv (2 ^ 45))).toNat : Int))) &&& BitVec.ofInt 64 255).toNat : Int))) + (w64 (e1)))) &&& BitVec.ofInt 64 255).toNat : Int)))
  else
    some (GCur.mk a.b a.i (w64 ((w64 (a.h * 6364136223846793005)) + 1442695040888963407)), w64 (((BitVec.ofInt 64 (w64 (((BitVec.ofInt 64 ((w64 ((w64 (a.h * 6364136223846793005)) + 1442695040888963407)).fdiv (2 ^ 33)) ^^^ BitVec.ofInt 64 ((w64 ((w64 (a.h * 6364136223846793005)) + 1442695040888963407)).fdiv (2 ^ 45))).toNat : Int))) &&& BitVec.ofInt 64 255).toNat : Int)))
noncomputable def sL1ByteFS : Fsp := { fid := 144, ps := [⟨true, .base .cur⟩], rs := [⟨true, .base .cur⟩, ⟨false, .base .int⟩], ex := false, fn := fun x => sL1Byte x }
noncomputable def sL1Below (a : GCur) (b : Int) : Option (GCur × Int) :=
  bif (decide (b ≤ 0)) then
    some (a, 0)
  else
  bif (decide (b ≤ 256)) then
    (sL1Byte a).bind fun r1 =>
    (remI r1.2 b).bind fun q2 =>
    some (r1.1, q2)
  else
    (sL1Byte a).bind fun r3 =>
    (sL1Byte r3.1).bind fun r4 =>
    (sL1Byte r4.1).bind fun r5 =>
    (sL1Byte r5.1).bind fun r6 =>
    (remI (w64 ((w64 ((w64 ((w64 (r3.2 * 16777216)) + (w64 (r4.2 * 65536)))) + (w64 (r5.2 * 256)))) + r6.2)) b).bind fun q7 =>
    some (r6.1, q7)
noncomputable def sL1BelowFS : Fsp := { fid := 93, ps := [⟨true, .base .cur⟩, ⟨false, .base .int⟩], rs := [⟨true, .base .cur⟩, ⟨false, .base .int⟩], ex := false, fn := fun x => sL1Below x.1 x.2 }
noncomputable def sL1Once (a : GCur) (b : Int) : Option (GCur × Bool) :=
  (sL1Below a b).bind fun r1 =>
  some (r1.1, (r1.2 == 0))
noncomputable def sL1OnceFS : Fsp := { fid := 49, ps := [⟨true, .base .cur⟩, ⟨false, .base .int⟩], rs := [⟨true, .base .cur⟩, ⟨false, .base .bool⟩], ex := false, fn := fun x => sL1Once x.1 x.2 }
noncomputable def sL1Max (a : Int) (b : Int) : Option (Int) :=
  bif (decide (a > b)) then
    some (a)
  else
    some (b)
noncomputable def sL1MaxFS : Fsp := { fid := 158, ps := [⟨false, .base .int⟩, ⟨false, .base .int⟩], rs := [⟨false, .base .int⟩], ex := true, fn := fun x => sL1Max x.1 x.2 }
noncomputable def sLastTime (a : List GOp) : Option (Int) :=
  loopD (fun (x1 : (List GOp) × Int × Int) =>
    bif (decide (x1.2.2 < (x1.1.length : Int))) then
      (idx x1.1 x1.2.2).bind fun e2 =>
      (sL1Max x1.2.1 e2.time).bind fun r3 =>
      some (.inl (x1.1, r3, w64 (x1.2.2 + 1)))
    else
      some (.inr (x1.2.1))
  ) (a, 0, 0)
noncomputable def sLastTimeFS : Fsp := { fid := 145, ps := [⟨false, .list (.base .op)⟩], rs := [⟨false, .base .int⟩], ex := true, fn := fun x => sLastTime x }
noncomputable def sL1PickInt (a : GCur) (b : List Int) : Option (GCur × Int) :=
  (sL1Below a (b.length : Int)).bind fun r1 =>
  (idx b r1.2).bind fun e2 =>
  some (r1.1, e2)
noncomputable def sL1PickIntFS : Fsp := { fid := 95, ps := [⟨true, .base .cur⟩, ⟨false, .list (.base .int)⟩], rs := [⟨true, .base .cur⟩, ⟨false, .base .int⟩], ex := false, fn := fun x => sL1PickInt x.1 x.2 }
noncomputable def sL1Pick (a : GCur) (b : List Str) : Option (GCur × Str) :=
  (sL1Below a (b.length : Int)).bind fun r1 =>
  (idx b r1.2).bind fun e2 =>
  some (r1.1, e2)
noncomputable def sL1PickFS : Fsp := { fid := 148, ps := [⟨true, .base .cur⟩, ⟨false, .list (.base .str)⟩], rs := [⟨true, .base .cur⟩, ⟨false, .base .str⟩], ex := false, fn := fun x => sL1Pick x.1 x.2 }
noncomputable def sFormatInt (a : Int) : Option (Str) :=
  bif (a == 0) then
    some ([48])
  else
  loopD (fun (x1 : Int × Bool × Str) =>
    bif (x1.1 != 0) then
      bif (decide ((x1.1.tmod 10) < 0)) then
        (gd ((bytesOf [w8 (w64 (48 + (w64 (0 - (x1.1.tmod 10)))))]).length + x1.2.2.length)).bind fun _ =>
        some (.inl (w64 (x1.1.tdiv 10), x1.2.1, (bytesOf [w8 (w64 (48 + (w64 (0 - (x1.1.tmod 10)))))]) ++ x1.2.2))
      else
        (gd ((bytesOf [w8 (w64 (48 + (x1.1.tmod 10)))]).length + x1.2.2.length)).bind fun _ =>
        some (.inl (w64 (x1.1.tdiv 10), x1.2.1, (bytesOf [w8 (w64 (48 + (x1.1.tmod 10)))]) ++ x1.2.2))
    else
      (
        bif x1.2.1 then
          (gd ([45].length + x1.2.2.length)).bind fun _ =>
          some ([45] ++ x1.2.2)
        else
          some (x1.2.2)
      ).bind fun r => some (.inr r)
  ) (a, (decide (a < 0)), [])
noncomputable def sFormatIntFS : Fsp := { fid := 199, ps := [⟨false, .base .int⟩], rs := [⟨false, .base .str⟩], ex := true, fn := fun x => sFormatInt x }
noncomputable def sL10Num (a : Int) : Option (GExpr) :=
  some (GExpr.mk 1 a [] [])
noncomputable def sL10NumFS : Fsp := { fid := 225, ps := [⟨false, .base .int⟩], rs := [⟨true, .base .expr⟩], ex := true, fn := fun x => sL10Num x }
noncomputable def sL10Name (a : Str) : Option (GExpr) :=
  some (GExpr.mk 3 0 a [])
noncomputable def sL10NameFS : Fsp := { fid := 234, ps := [⟨false, .base .str⟩], rs := [⟨true, .base .expr⟩], ex := true, fn := fun x => sL10Name x }
noncomputable def sL10Leaf (a : GCur) (b : List Str) : Option (GCur × GExpr) :=
  (sL1Below a 5).bind fun r1 =>
  bif (r1.2 == 0) then
    (sL1Pick r1.1 ([[97], [97, 98], [], [98]] : List Str)).bind fun r2 =>
    some (r2.1, GExpr.mk 2 0 r2.2 [])
  else
  bif (r1.2 == 1) then
    (sL1Below r1.1 6).bind fun r3 =>
    (sL10Num r3.2).bind fun r4 =>
    some (r3.1, reExpr r4)
  else
    bif (r1.2 == 2) then
      (sL1Below r1.1 6).bind fun r5 =>
      (sL10Num r5.2).bind fun r6 =>
      some (r5.1, reExpr r6)
    else
      (sL1Pick r1.1 b).bind fun r7 =>
      (sL10Name r7.2).bind fun r8 =>
      some (r7.1, reExpr r8)
noncomputable def sL10LeafFS : Fsp := { fid := 220, ps := [⟨true, .base .cur⟩, ⟨false, .list (.base .str)⟩], rs := [⟨true, .base .cur⟩, ⟨true, .base .expr⟩], ex := false, sh := true, fn := fun x => sL10Leaf x.1 x.2 }
noncomputable def sL10Op (a : Int) (b : GExpr) (c : GExpr) : Option (GExpr) :=
  some (GExpr.mk 6 a [] [reExpr b, reExpr c])
noncomputable def sL10OpFS : Fsp := { fid := 221, ps := [⟨false, .base .int⟩, ⟨true, .base .expr⟩, ⟨true, .base .expr⟩], rs := [⟨true, .base .expr⟩], ex := false, sh := true, fn := fun x => sL10Op x.1 x.2.1 x.2.2 }
noncomputable def sL10List (a : GCur) (b : List Str) : Option (GCur × GExpr) :=
  (sL1Below a 4).bind fun r1 =>
  loopD (fun (x2 : (List Int) × Int × Int × (List Str) × Int × Int × Str × (List GExpr) × Int × Int × Str × (List GExpr) × Int × Int) =>
    bif (decide (x2.2.2.2.2.2.2.2.2.2.2.2.2.2 < x2.2.2.2.2.2.2.2.2.2.2.2.2.1)) then
      (sL1Below (GCur.mk x2.1 x2.2.1 x2.2.2.1) 5).bind fun r3 =>
      (sL10Num r3.2).bind fun r4 =>
      (gd (x2.2.2.2.2.2.2.2.2.2.2.2.1.length + [reExpr r4].length)).bind fun _ =>
      (sL1Once r3.1 4).bind fun r5 =>
      bif r5.2 then
        (sL10Leaf r5.1 x2.2.2.2.1).bind fun r6 =>
        (idx (x2.2.2.2.2.2.2.2.2.2.2.2.1 ++ [reExpr r4]) x2.2.2.2.2.2.2.2.2.2.2.2.2.2).bind fun _ =>
        ((x2.2.2.2.2.2.2.2.2.2.2.2.1 ++ [reExpr r4])[x2.2.2.2.2.2.2.2.2.2.2.2.2.2.toNat]?).bind fun e8 =>
        some (.inl (r6.1.b, r6.1.i, r6.1.h, x2.2.2.2.1, x2.2.2.2.2.1, x2.2.2.2.2.2.1, x2.2.2.2.2.2.2.1, x2.2.2.2.2.2.2.2.1, x2.2.2.2.2.2.2.2.2.1, x2.2.2.2.2.2.2.2.2.2.1, x2.2.2.2.2.2.2.2.2.2.2.1, (x2.2.2.2.2.2.2.2.2.2.2.2.1 ++ [reExpr r4]).set x2.2.2.2.2.2.2.2.2.2.2.2.2.2.toNat (reExpr r6.2), x2.2.2.2.2.2.2.2.2.2.2.2.2.1, w64 (x2.2.2.2.2.2.2.2.2.2.2.2.2.2 + 1)))
      else
        some (.inl (r5.1.b, r5.1.i, r5.1.h, x2.2.2.2.1, x2.2.2.2.2.1, x2.2.2.2.2.2.1, x2.2.2.2.2.2.2.1, x2.2.2.2.2.2.2.2.1, x2.2.2.2.2.2.2.2.2.1, x2.2.2.2.2.2.2.2.2.2.1, x2.2.2.2.2.2.2.2.2.2.2.1, x2.2.2.2.2.2.2.2.2.2.2.2.1 ++ [reExpr r4], x2.2.2.2.2.2.2.2.2.2.2.2.2.1, w64 (x2.2.2.2.2.2.2.2.2.2.2.2.2.2 + 1)))
    else
      some (.inr (GCur.mk x2.1 x2.2.1 x2.2.2.1, GExpr.mk x2.2.2.2.2.2.2.2.2.1 x2.2.2.2.2.2.2.2.2.2.1 x2.2.2.2.2.2.2.2.2.2.2.1 x2.2.2.2.2.2.2.2.2.2.2.2.1))
  ) (r1.1.b, r1.1.i, r1.1.h, b, 0, 0, [], [], 4, 0, [], [], r1.2, 0)
noncomputable def sL10ListFS : Fsp := { fid := 222, ps := [⟨true, .base .cur⟩, ⟨false, .list (.base .str)⟩], rs := [⟨true, .base .cur⟩, ⟨true, .base .expr⟩], ex := false, sh := true, fn := fun x => sL10List x.1 x.2 }
noncomputable def sL10Call (a : Str) (b : List GExpr) : Option (GExpr) :=
  some (GExpr.mk 5 0 a b)
noncomputable def sL10CallFS : Fsp := { fid := 223, ps := [⟨false, .base .str⟩, ⟨false, .list (.base .expr)⟩], rs := [⟨true, .base .expr⟩], ex := false, fn := fun x => sL10Call x.1 x.2 }
noncomputable def sL1PickExpr (a : GCur) (b : GExpr) (c : GExpr) : Option (GCur × GExpr) :=
  (sL1Once a 2).bind fun r1 =>
  bif r1.2 then
    some (r1.1, reExpr b)
  else
    some (r1.1, reExpr c)
noncomputable def sL1PickExprFS : Fsp := { fid := 224, ps := [⟨true, .base .cur⟩, ⟨true, .base .expr⟩, ⟨true, .base .expr⟩], rs := [⟨true, .base .cur⟩, ⟨true, .base .expr⟩], ex := false, fn := fun x => sL1PickExpr x.1 x.2.1 x.2.2 }
noncomputable def sL10Column (a : GCur) : Option (GCur × GExpr) :=
  (sL1Pick a ([[97], [97], [98], [99], [120]] : List Str)).bind fun r1 =>
  some (r1.1, GExpr.mk 2 0 r1.2 [])
noncomputable def sL10ColumnFS : Fsp := { fid := 226, ps := [⟨true, .base .cur⟩], rs := [⟨true, .base .cur⟩, ⟨true, .base .expr⟩], ex := false, sh := true, fn := fun x => sL10Column x }
noncomputable def sL10Table (a : GCur) : Option (GCur × GExpr) :=
  (sL1Below a 4).bind fun r1 =>
  loopD (fun (x2 : (List Int) × Int × Int × Int × Int × Str × (List GExpr) × Int × Int × Str × (List GExpr) × Int × Int) =>
    bif (decide (x2.2.2.2.2.2.2.2.2.2.2.2.2 < x2.2.2.2.2.2.2.2.2.2.2.2.1)) then
      (sL1Below (GCur.mk x2.1 x2.2.1 x2.2.2.1) 3).bind fun r3 =>
      (sL10Num r3.2).bind fun r4 =>
      (sL1Below r3.1 4).bind fun r5 =>
      (sL10Num r5.2).bind fun r6 =>
      (gd (x2.2.2.2.2.2.2.2.2.2.2.1.length + ([GExpr.mk 4 0 [] [reExpr r4, reExpr r6]]).length)).bind fun _ =>
      some (.inl (r5.1.b, r5.1.i, r5.1.h, x2.2.2.2.1, x2.2.2.2.2.1, x2.2.2.2.2.2.1, x2.2.2.2.2.2.2.1, x2.2.2.2.2.2.2.2.1, x2.2.2.2.2.2.2.2.2.1, x2.2.2.2.2.2.2.2.2.2.1, x2.2.2.2.2.2.2.2.2.2.2.1 ++ ([GExpr.mk 4 0 [] [reExpr r4, reExpr r6]]), x2.2.2.2.2.2.2.2.2.2.2.2.1, w64 (x2.2.2.2.2.2.2.2.2.2.2.2.2 + 1)))
    else
      (
        (sL10Call [116, 97, 98, 108, 101] ([GExpr.mk 2 0 [97, 32, 98] [], GExpr.mk x2.2.2.2.2.2.2.2.1 x2.2.2.2.2.2.2.2.2.1 x2.2.2.2.2.2.2.2.2.2.1 x2.2.2.2.2.2.2.2.2.2.2.1])).bind fun r7 =>
        some (GCur.mk x2.1 x2.2.1 x2.2.2.1, reExpr r7)
      ).bind fun r => some (.inr r)
  ) (r1.1.b, r1.1.i, r1.1.h, 0, 0, [], [], 4, 0, [], [], r1.2, 0)
noncomputable def sL10TableFS : Fsp := { fid := 227, ps := [⟨true, .base .cur⟩], rs := [⟨true, .base .cur⟩, ⟨true, .base .expr⟩], ex := false, fn := fun x => sL10Table x }
noncomputable def sL10MakeB (rsL10Make : GCur → (List Str) → Int → Option (GCur × GExpr)) (a : GCur) (b : List Str) (c : Int) : Option (GCur × GExpr) :=
  bif (decide (c < 2)) then
    (sL10Leaf a b).bind fun r1 =>
    some (r1.1, reExpr r1.2)
  else
  (sL1Below a 13).bind fun r2 =>
  bif (r2.2 == 0) then
    (sL1Below r2.1 5).bind fun r3 =>
    (rsL10Make r3.1 b (w64 (c - 1))).bind fun r4 =>
    (rsL10Make r4.1 b (w64 (c - 1))).bind fun r5 =>
    (sL10Op (w64 (1 + r3.2)) (reExpr r4.2) (reExpr r5.2)).bind fun r6 =>
    some (r5.1, reExpr r6)
  else
  bif (r2.2 == 1) then
    (sL1Below r2.1 5).bind fun r7 =>
    (rsL10Make r7.1 b (w64 (c - 1))).bind fun r8 =>
    (rsL10Make r8.1 b (w64 (c - 1))).bind fun r9 =>
    (sL10Op (w64 (1 + r7.2)) (reExpr r8.2) (reExpr r9.2)).bind fun r10 =>
    some (r9.1, reExpr r10)
  else
  bif (r2.2 == 2) then
    (idx b 0).bind fun e11 =>
    (sL1Pick r2.1 ([[117], [118], e11] : List Str)).bind fun r12 =>
    (rsL10Make r12.1 b (w64 (c - 1))).bind fun r13 =>
    (gd (([r12.2] : List Str).length + b.length)).bind fun _ =>
    (rsL10Make r13.1 (([r12.2] : List Str) ++ b) (w64 (c - 1))).bind fun r14 =>
    some (r14.1, GExpr.mk 7 0 r12.2 [reExpr r13.2, reExpr r14.2])
  else
  bif (r2.2 == 3) then
    (rsL10Make r2.1 b (w64 (c - 1))).bind fun r15 =>
    (rsL10Make r15.1 b (w64 (c - 1))).bind fun r16 =>
    (rsL10Make r16.1 b (w64 (c - 1))).bind fun r17 =>
    some (r17.1, GExpr.mk 8 0 [] [reExpr r15.2, reExpr r16.2, reExpr r17.2])
  else
  bif (r2.2 == 4) then
    (idx b 0).bind fun e18 =>
    (sL1Pick r2.1 ([[117], [118], e18] : List Str)).bind fun r19 =>
    (sL10List r19.1 b).bind fun r20 =>
    (gd (([r19.2, r19.2] : List Str).length + b.length)).bind fun _ =>
    (rsL10Make r20.1 (([r19.2, r19.2] : List Str) ++ b) (w64 (c - 1))).bind fun r21 =>
    some (r21.1, GExpr.mk 9 0 r19.2 [reExpr r20.2, reExpr r21.2])
  else
  bif (r2.2 == 5) then
    (sL10List r2.1 b).bind fun r22 =>
    some (r22.1, reExpr r22.2)
  else
  bif (r2.2 == 6) then
    (sL1Pick r2.1 ([[108, 101, 110], [115, 117, 109]] : List Str)).bind fun r23 =>
    (sL10List r23.1 b).bind fun r24 =>
    (rsL10Make r24.1 b (w64 (c - 1))).bind fun r25 =>
    (sL1PickExpr r25.1 (reExpr r24.2) (reExpr r25.2)).bind fun r26 =>
    (sL10Call r23.2 [reExpr r26.2]).bind fun r27 =>
    some (r26.1, reExpr r27)
  else
  bif (r2.2 == 7) then
    (sL1Pick r2.1 ([[116, 97, 107, 101], [115, 107, 105, 112], [110, 116, 104], [116, 97, 107, 101]] : List Str)).bind fun r28 =>
    (sL1Below r28.1 4).bind fun r29 =>
    (sL10Num r29.2).bind fun r30 =>
    (sL10List r29.1 b).bind fun r31 =>
    (sL1Below r31.1 9).bind fun r32 =>
    (sL10Num r32.2).bind fun r33 =>
    (sL1Below r32.1 4).bind fun r34 =>
    (sL10Num r34.2).bind fun r35 =>
    (sL10Call [114, 97, 110, 103, 101] [reExpr r33, reExpr r35]).bind fun r36 =>
    (sL1PickExpr r34.1 (reExpr r31.2) (reExpr r36)).bind fun r37 =>
    (sL10Call r28.2 [reExpr r30, reExpr r37.2]).bind fun r38 =>
    some (r37.1, reExpr r38)
  else
  bif (r2.2 == 8) then
    (sL10Column r2.1).bind fun r39 =>
    (sL1Below r39.1 3).bind fun r40 =>
    (sL10Num r40.2).bind fun r41 =>
    (sL10Table r40.1).bind fun r42 =>
    (rsL10Make r42.1 b (w64 (c - 1))).bind fun r43 =>
    (sL1PickExpr r43.1 (reExpr r42.2) (reExpr r43.2)).bind fun r44 =>
    (sL10Call [119, 104, 101, 114, 101] [reExpr r39.2, reExpr r41, reExpr r44.2]).bind fun r45 =>
    some (r44.1, reExpr r45)
  else
  bif (r2.2 == 9) then
    (sL10Column r2.1).bind fun r46 =>
    (sL10Column r46.1).bind fun r47 =>
    (sL10Table r47.1).bind fun r48 =>
    (rsL10Make r48.1 b (w64 (c - 1))).bind fun r49 =>
    (sL1PickExpr r49.1 (reExpr r48.2) (reExpr r49.2)).bind fun r50 =>
    (sL10Call [103, 114, 111, 117, 112] [reExpr r46.2, reExpr r47.2, reExpr r50.2]).bind fun r51 =>
    some (r50.1, reExpr r51)
  else
  bif (r2.2 == 10) then
    (sL10Table r2.1).bind fun r52 =>
    (rsL10Make r52.1 b (w64 (c - 1))).bind fun r53 =>
    (sL1PickExpr r53.1 (reExpr r52.2) (reExpr r53.2)).bind fun r54 =>
    (sL10Call [114, 111, 119, 115] [reExpr r54.2]).bind fun r55 =>
    some (r54.1, reExpr r55)
  else
  bif (r2.2 == 11) then
    (sL1Below r2.1 6).bind fun r56 =>
    (sL10Num (w64 (1 + r56.2))).bind fun r57 =>
    (sL10Call [99, 104, 97, 110, 99, 101] [reExpr r57]).bind fun r58 =>
    some (r56.1, reExpr r58)
  else
    (sL10Call [99, 108, 111, 99, 107] []).bind fun r59 =>
    (sL1Pick r2.1 ([[102], [103], [104]] : List Str)).bind fun r60 =>
    (sL10Call [102, 105, 108, 101] ([GExpr.mk 2 0 r60.2 []])).bind fun r61 =>
    (sL1PickExpr r60.1 (reExpr r59) (reExpr r61)).bind fun r62 =>
    some (r62.1, reExpr r62.2)
noncomputable def sL10MakeG : Nat → (GCur → (List Str) → Int → Option (GCur × GExpr))
  | 0 => fun _ _ _ => none
  | n + 1 => sL10MakeB (sL10MakeG n)
noncomputable def sL10Make (a : GCur) (b : List Str) (c : Int) : Option (GCur × GExpr) := (sL10MakeG (siz a + siz b + 1)) a b c
noncomputable def sL10MakeFS : Fsp := { fid := 200, ps := [⟨true, .base .cur⟩, ⟨false, .list (.base .str)⟩, ⟨false, .base .int⟩], rs := [⟨true, .base .cur⟩, ⟨true, .base .expr⟩], ex := false, fn := fun x => sL10Make x.1 x.2.1 x.2.2 }
noncomputable def sL10MakeFSN (n : Nat) : Fsp := { fid := 200, ps := [⟨true, .base .cur⟩, ⟨false, .list (.base .str)⟩, ⟨false, .base .int⟩], rs := [⟨true, .base .cur⟩, ⟨true, .base .expr⟩], ex := false, fn := fun x => (sL10MakeG n) x.1 x.2.1 x.2.2 }
noncomputable def sL10LeftB (rsL10Left : GExpr → Int → Option (Int)) (a : GExpr) (b : Int) : Option (Int) :=
  loopD (fun (x1 : Int × Int × Int × Str × (List GExpr) × Int) =>
    bif (decide (x1.2.2.2.2.2 < (x1.2.2.2.2.1.length : Int))) then
      bif (decide (x1.1 ≥ 0)) then
        (idx x1.2.2.2.2.1 x1.2.2.2.2.2).bind fun e2 =>
        (rsL10Left (reExpr e2) x1.1).bind fun r3 =>
        some (.inl (r3, x1.2.1, x1.2.2.1, x1.2.2.2.1, x1.2.2.2.2.1, w64 (x1.2.2.2.2.2 + 1)))
      else
        some (.inr (x1.1))
    else
      some (.inr (x1.1))
  ) (w64 (b - 1), a.kind, a.n, a.text, a.args, 0)
noncomputable def sL10LeftG : Nat → (GExpr → Int → Option (Int))
  | 0 => fun _ _ => none
  | n + 1 => sL10LeftB (sL10LeftG n)
noncomputable def sL10Left (a : GExpr) (b : Int) : Option (Int) := (sL10LeftG (siz a + 1)) a b
noncomputable def sL10LeftFS : Fsp := { fid := 235, ps := [⟨true, .base .expr⟩, ⟨false, .base .int⟩], rs := [⟨false, .base .int⟩], ex := true, fn := fun x => sL10Left x.1 x.2 }
noncomputable def sL10LeftFSN (n : Nat) : Fsp := { fid := 235, ps := [⟨true, .base .expr⟩, ⟨false, .base .int⟩], rs := [⟨false, .base .int⟩], ex := true, fn := fun x => (sL10LeftG n) x.1 x.2 }
noncomputable def sNestingOfB (rsNestingOf : GExpr → Option (Int)) (a : GExpr) : Option (Int) :=
  loopD (fun (x1 : Int × Int × Str × (List GExpr) × Int × Int) =>
    bif (decide (x1.2.2.2.2.2 < (x1.2.2.2.1.length : Int))) then
      (idx x1.2.2.2.1 x1.2.2.2.2.2).bind fun e2 =>
      (rsNestingOf (reExpr e2)).bind fun r3 =>
      (sL1Max x1.2.2.2.2.1 r3).bind fun r4 =>
      some (.inl (x1.1, x1.2.1, x1.2.2.1, x1.2.2.2.1, r4, w64 (x1.2.2.2.2.2 + 1)))
    else
      some (.inr (w64 (x1.2.2.2.2.1 + 1)))
  ) (a.kind, a.n, a.text, a.args, 0, 0)
noncomputable def sNestingOfG : Nat → (GExpr → Option (Int))
  | 0 => fun _ => none
  | n + 1 => sNestingOfB (sNestingOfG n)
noncomputable def sNestingOf (a : GExpr) : Option (Int) := (sNestingOfG (siz a + 1)) a
noncomputable def sNestingOfFS : Fsp := { fid := 236, ps := [⟨true, .base .expr⟩], rs := [⟨false, .base .int⟩], ex := true, fn := fun x => sNestingOf x }
noncomputable def sNestingOfFSN (n : Nat) : Fsp := { fid := 236, ps := [⟨true, .base .expr⟩], rs := [⟨false, .base .int⟩], ex := true, fn := fun x => (sNestingOfG n) x }
noncomputable def sL1In (a : Int) (b : Int) (c : Int) : Option (Bool) :=
  bif (decide (a ≥ b)) then
    some ((decide (a ≤ c)))
  else
    some (false)
noncomputable def sL1InFS : Fsp := { fid := 96, ps := [⟨false, .base .int⟩, ⟨false, .base .int⟩, ⟨false, .base .int⟩], rs := [⟨false, .base .bool⟩], ex := true, fn := fun x => sL1In x.1 x.2.1 x.2.2 }
noncomputable def sL2Shape (a : Str) : Option (Bool) :=
  loopD (fun (x1 : Str × Int) =>
    bif (decide (x1.2 < (x1.1.length : Int))) then
      (idx x1.1 x1.2).bind fun c2 =>
      bif (decide ((c2.toNat : Int) ≥ 97)) then
        (idx x1.1 x1.2).bind fun c3 =>
        (idx x1.1 x1.2).bind fun c4 =>
        bif (decide ((c4.toNat : Int) ≥ 48)) then
          (idx x1.1 x1.2).bind fun c5 =>
          bif (!(decide ((c3.toNat : Int) ≤ 122))) then
            bif (x1.2 == 0) then
              some (.inr (false))
            else
              bif (!(decide ((c5.toNat : Int) ≤ 57))) then
                some (.inr (false))
              else
                some (.inl (x1.1, w64 (x1.2 + 1)))
          else
            some (.inl (x1.1, w64 (x1.2 + 1)))
        else
          bif (!(decide ((c3.toNat : Int) ≤ 122))) then
            bif (x1.2 == 0) then
              some (.inr (false))
            else
              some (.inr (false))
          else
            some (.inl (x1.1, w64 (x1.2 + 1)))
      else
      (idx x1.1 x1.2).bind fun c6 =>
      bif (decide ((c6.toNat : Int) ≥ 48)) then
        (idx x1.1 x1.2).bind fun c7 =>
        bif (x1.2 == 0) then
          some (.inr (false))
        else
          bif (!(decide ((c7.toNat : Int) ≤ 57))) then
            some (.inr (false))
          else
            some (.inl (x1.1, w64 (x1.2 + 1)))
      else
        bif (x1.2 == 0) then
          some (.inr (false))
        else
          some (.inr (false))
    else
      some (.inr ((decide ((x1.1.length : Int) > 0))))
  ) (a, 0)
noncomputable def sL2ShapeFS : Fsp := { fid := 189, ps := [⟨false, .base .str⟩], rs := [⟨false, .base .bool⟩], ex := true, fn := fun x => sL2Shape x }
noncomputable def sL1Has (a : List Str) (b : Str) : Option (Bool) :=
  loopD (fun (x1 : (List Str) × Str × Int) =>
    bif (decide (x1.2.2 < (x1.1.length : Int))) then
      (idx x1.1 x1.2.2).bind fun e2 =>
      bif (e2 == x1.2.1) then
        some (.inr (true))
      else
        some (.inl (x1.1, x1.2.1, w64 (x1.2.2 + 1)))
    else
      some (.inr (false))
  ) (a, b, 0)
noncomputable def sL1HasFS : Fsp := { fid := 207, ps := [⟨false, .list (.base .str)⟩, ⟨false, .base .str⟩], rs := [⟨false, .base .bool⟩], ex := true, fn := fun x => sL1Has x.1 x.2 }
noncomputable def sL2Reserved : Option ((List Str)) :=
  some (([[108, 101, 116], [105, 110], [105, 102], [116, 104, 101, 110], [101, 108, 115, 101], [102, 111, 114], [100, 111], [108, 101, 110], [115, 117, 109], [116, 97, 107, 101], [115, 107, 105, 112], [114, 97, 110, 103, 101], [110, 116, 104], [119, 104, 101, 114, 101], [107, 101, 101, 112], [97, 100, 100], [103, 114, 111, 117, 112], [106, 111, 105, 110], [99, 111, 108, 117, 109, 110], [114, 111, 119, 115], [99, 108, 111, 99, 107], [99, 104, 97, 110, 99, 101], [102, 105, 108, 101], [116, 97, 98, 108, 101]] : List Str))
noncomputable def sL2ReservedFS : Fsp := { fid := 208, ps := [], rs := [⟨false, .list (.base .str)⟩], ex := true, fn := fun x => sL2Reserved }
noncomputable def sIsReserved (a : Str) : Option (Bool) :=
  (sL2Reserved).bind fun r1 =>
  (sL1Has r1 a).bind fun r2 =>
  some (r2)
noncomputable def sIsReservedFS : Fsp := { fid := 190, ps := [⟨false, .base .str⟩], rs := [⟨false, .base .bool⟩], ex := true, fn := fun x => sIsReserved x }
noncomputable def sIsValidName (a : Str) : Option (Bool) :=
  (sL2Shape a).bind fun r1 =>
  bif r1 then
    bif (decide ((a.length : Int) ≤ 8)) then
      (sIsReserved a).bind fun r2 =>
      some ((!r2))
    else
      some (false)
  else
    some (false)
noncomputable def sIsValidNameFS : Fsp := { fid := 157, ps := [⟨false, .base .str⟩], rs := [⟨false, .base .bool⟩], ex := true, fn := fun x => sIsValidName x }
noncomputable def sIsValidText (a : Str) : Option (Bool) :=
  loopD (fun (x1 : Str × Int) =>
    bif (decide (x1.2 < (x1.1.length : Int))) then
      (idx x1.1 x1.2).bind fun c2 =>
      bif (decide ((c2.toNat : Int) < 32)) then
        some (.inr (false))
      else
        (idx x1.1 x1.2).bind fun c3 =>
        bif (decide ((c3.toNat : Int) > 126)) then
          some (.inr (false))
        else
          (idx x1.1 x1.2).bind fun c4 =>
          bif ((c4.toNat : Int) == 34) then
            some (.inr (false))
          else
            some (.inl (x1.1, w64 (x1.2 + 1)))
    else
      some (.inr ((decide ((x1.1.length : Int) ≤ 20))))
  ) (a, 0)
noncomputable def sIsValidTextFS : Fsp := { fid := 248, ps := [⟨false, .base .str⟩], rs := [⟨false, .base .bool⟩], ex := true, fn := fun x => sIsValidText x }
noncomputable def sArgumentCount (a : Str) : Option (Int) :=
  bif (a == [99, 108, 111, 99, 107]) then
    some (0)
  else
  bif (a == [108, 101, 110]) then
    some (1)
  else
  bif (a == [115, 117, 109]) then
    some (1)
  else
  bif (a == [114, 111, 119, 115]) then
    some (1)
  else
  bif (a == [99, 104, 97, 110, 99, 101]) then
    some (1)
  else
  bif (a == [102, 105, 108, 101]) then
    some (1)
  else
  bif (a == [116, 97, 107, 101]) then
    some (2)
  else
  bif (a == [115, 107, 105, 112]) then
    some (2)
  else
  bif (a == [114, 97, 110, 103, 101]) then
    some (2)
  else
  bif (a == [110, 116, 104]) then
    some (2)
  else
  bif (a == [107, 101, 101, 112]) then
    some (2)
  else
  bif (a == [99, 111, 108, 117, 109, 110]) then
    some (2)
  else
  bif (a == [116, 97, 98, 108, 101]) then
    some (2)
  else
  bif (a == [119, 104, 101, 114, 101]) then
    some (3)
  else
    bif (a == [103, 114, 111, 117, 112]) then
      some (3)
    else
      bif (a == [106, 111, 105, 110]) then
        some (3)
      else
        bif (a == [97, 100, 100]) then
          some (4)
        else
          some ((-1))
noncomputable def sArgumentCountFS : Fsp := { fid := 249, ps := [⟨false, .base .str⟩], rs := [⟨false, .base .int⟩], ex := true, fn := fun x => sArgumentCount x }
noncomputable def sL10Node (a : GExpr) : Option (Bool) :=
  bif (a.kind == 1) then
    bif ((a.args.length : Int) == 0) then
      bif (a.text == []) then
        (sL1In a.n 0 1000000000).bind fun r1 =>
        some (r1)
      else
        some (false)
    else
      some (false)
  else
  bif (a.kind == 2) then
    bif ((a.args.length : Int) == 0) then
      bif (a.n == 0) then
        (sIsValidText a.text).bind fun r2 =>
        some (r2)
      else
        some (false)
    else
      some (false)
  else
  bif (a.kind == 3) then
    bif ((a.args.length : Int) == 0) then
      bif (a.n == 0) then
        (sIsValidName a.text).bind fun r3 =>
        some (r3)
      else
        some (false)
    else
      some (false)
  else
  bif (a.kind == 4) then
    bif (a.n == 0) then
      bif (a.text == []) then
        some ((decide ((a.args.length : Int) ≤ 8)))
      else
        some (false)
    else
      some (false)
  else
  bif (a.kind == 5) then
    bif (a.n == 0) then
      (sArgumentCount a.text).bind fun r4 =>
      some (((a.args.length : Int) == r4))
    else
      some (false)
  else
  bif (a.kind == 6) then
    bif (a.text == []) then
      bif ((a.args.length : Int) == 2) then
        (sL1In a.n 1 5).bind fun r5 =>
        some (r5)
      else
        some (false)
    else
      some (false)
  else
  bif (a.kind == 7) then
    bif (a.n == 0) then
      bif ((a.args.length : Int) == 2) then
        (sIsValidName a.text).bind fun r6 =>
        some (r6)
      else
        some (false)
    else
      some (false)
  else
  bif (a.kind == 9) then
    bif (a.n == 0) then
      bif ((a.args.length : Int) == 2) then
        (sIsValidName a.text).bind fun r7 =>
        some (r7)
      else
        some (false)
    else
      some (false)
  else
    bif (a.kind == 8) then
      bif (a.n == 0) then
        bif (a.text == []) then
          some (((a.args.length : Int) == 3))
        else
          some (false)
      else
        some (false)
    else
      some (false)
noncomputable def sL10NodeFS : Fsp := { fid := 245, ps := [⟨true, .base .expr⟩], rs := [⟨false, .base .bool⟩], ex := true, fn := fun x => sL10Node x }
noncomputable def sL10AllB (rsL10All : GExpr → Option (Bool)) (a : GExpr) : Option (Bool) :=
  loopD (fun (x1 : Int × Int × Str × (List GExpr) × Int) =>
    bif (decide (x1.2.2.2.2 < (x1.2.2.2.1.length : Int))) then
      (idx x1.2.2.2.1 x1.2.2.2.2).bind fun e2 =>
      (rsL10All (reExpr e2)).bind fun r3 =>
      bif (!r3) then
        some (.inr (false))
      else
        some (.inl (x1.1, x1.2.1, x1.2.2.1, x1.2.2.2.1, w64 (x1.2.2.2.2 + 1)))
    else
      (
        (sL10Node (GExpr.mk x1.1 x1.2.1 x1.2.2.1 x1.2.2.2.1)).bind fun r4 =>
        some (r4)
      ).bind fun r => some (.inr r)
  ) (a.kind, a.n, a.text, a.args, 0)
noncomputable def sL10AllG : Nat → (GExpr → Option (Bool))
  | 0 => fun _ => none
  | n + 1 => sL10AllB (sL10AllG n)
noncomputable def sL10All (a : GExpr) : Option (Bool) := (sL10AllG (siz a + 1)) a
noncomputable def sL10AllFS : Fsp := { fid := 237, ps := [⟨true, .base .expr⟩], rs := [⟨false, .base .bool⟩], ex := true, fn := fun x => sL10All x }
noncomputable def sL10AllFSN (n : Nat) : Fsp := { fid := 237, ps := [⟨true, .base .expr⟩], rs := [⟨false, .base .bool⟩], ex := true, fn := fun x => (sL10AllG n) x }
noncomputable def sIsValidExpr (a : GExpr) : Option (Bool) :=
  (sL10Left (reExpr a) 40).bind fun r1 =>
  bif (decide (r1 ≥ 0)) then
    (sNestingOf (reExpr a)).bind fun r2 =>
    bif (decide (r2 ≤ 8)) then
      (sL10All (reExpr a)).bind fun r3 =>
      some (r3)
    else
      some (false)
  else
    some (false)
noncomputable def sIsValidExprFS : Fsp := { fid := 228, ps := [⟨true, .base .expr⟩], rs := [⟨false, .base .bool⟩], ex := true, fn := fun x => sIsValidExpr x }
noncomputable def sJoin (a : List Str) (b : Str) : Option (Str) :=
  loopD (fun (x1 : (List Str) × Str × (List Int) × Int) =>
    bif (decide (x1.2.2.2 < (x1.1.length : Int))) then
      bif (decide (x1.2.2.2 > 0)) then
        (gd (x1.2.2.1.length + (octs x1.2.1).length)).bind fun _ =>
        (idx x1.1 x1.2.2.2).bind fun e2 =>
        (gd ((x1.2.2.1 ++ (octs x1.2.1)).length + (octs e2).length)).bind fun _ =>
        some (.inl (x1.1, x1.2.1, (x1.2.2.1 ++ (octs x1.2.1)) ++ (octs e2), w64 (x1.2.2.2 + 1)))
      else
        (idx x1.1 x1.2.2.2).bind fun e3 =>
        (gd (x1.2.2.1.length + (octs e3).length)).bind fun _ =>
        some (.inl (x1.1, x1.2.1, x1.2.2.1 ++ (octs e3), w64 (x1.2.2.2 + 1)))
    else
      some (.inr (bytesOf x1.2.2.1))
  ) (a, b, [], 0)
noncomputable def sJoinFS : Fsp := { fid := 203, ps := [⟨false, .list (.base .str)⟩, ⟨false, .base .str⟩], rs := [⟨false, .base .str⟩], ex := true, fn := fun x => sJoin x.1 x.2 }
noncomputable def sLevelOf (a : GExpr) : Option (Int) :=
  bif (a.kind == 7) then
    some (0)
  else
  bif (a.kind == 8) then
    some (0)
  else
  bif (a.kind == 9) then
    some (0)
  else
  bif (a.kind == 6) then
    bif (a.n == 4) then
      some (1)
    else
    bif (a.n == 5) then
      some (1)
    else
      bif (a.n == 1) then
        some (2)
      else
        bif (a.n == 2) then
          some (2)
        else
          bif (a.n == 3) then
            some (3)
          else
            some (4)
  else
    some (4)
noncomputable def sLevelOfFS : Fsp := { fid := 239, ps := [⟨true, .base .expr⟩], rs := [⟨false, .base .int⟩], ex := true, fn := fun x => sLevelOf x }
noncomputable def sOpSymbol (a : Int) : Option (Str) :=
  (sL1In a 1 5).bind fun r1 =>
  bif (!r1) then
    some ([63])
  else
    (idx ([[], [43], [45], [42], [60], [61, 61]] : List Str) a).bind fun _ =>
    (([[], [43], [45], [42], [60], [61, 61]] : List Str)[a.toNat]?).bind fun e3 =>
    some (e3)
noncomputable def sOpSymbolFS : Fsp := { fid := 241, ps := [⟨false, .base .int⟩], rs := [⟨false, .base .str⟩], ex := true, fn := fun x => sOpSymbol x }
noncomputable def sL12TextB (rsL12Text : GExpr → Option (Str)) (rsL12List : (List GExpr) → Option (Str)) (rsL12At : GExpr → Int → Option (Str)) (a : GExpr) : Option (Str) :=
  bif (a.kind == 1) then
    (sFormatInt a.n).bind fun r1 =>
    some (r1)
  else
  bif (a.kind == 2) then
    (gd ([34].length + a.text.length)).bind fun _ =>
    (gd (([34] ++ a.text).length + [34].length)).bind fun _ =>
    some (([34] ++ a.text) ++ [34])
  else
  bif (a.kind == 3) then
    some (a.text)
  else
  bif (a.kind == 4) then
    (rsL12List a.args).bind fun r2 =>
    (gd ([91].length + r2.length)).bind fun _ =>
    (gd (([91] ++ r2).length + [93].length)).bind fun _ =>
    some (([91] ++ r2) ++ [93])
  else
  bif (a.kind == 5) then
    (gd (a.text.length + [40].length)).bind fun _ =>
    (rsL12List a.args).bind fun r3 =>
    (gd ((a.text ++ [40]).length + r3.length)).bind fun _ =>
    (gd (((a.text ++ [40]) ++ r3).length + [41].length)).bind fun _ =>
    some (((a.text ++ [40]) ++ r3) ++ [41])
  else
  bif (a.kind == 7) then
    (gd ([108, 101, 116, 32].length + a.text.length)).bind fun _ =>
    (gd (([108, 101, 116, 32] ++ a.text).length + [32, 61, 32].length)).bind fun _ =>
    (idx a.args 0).bind fun e4 =>
    (rsL12Text (reExpr e4)).bind fun r5 =>
    (gd ((([108, 101, 116, 32] ++ a.text) ++ [32, 61, 32]).length + r5.length)).bind fun _ =>
    (gd (((([108, 101, 116, 32] ++ a.text) ++ [32, 61, 32]) ++ r5).length + [32, 105, 110, 32].length)).bind fun _ =>
    (idx a.args 1).bind fun e6 =>
    (rsL12Text (reExpr e6)).bind fun r7 =>
    (gd ((((([108, 101, 116, 32] ++ a.text) ++ [32, 61, 32]) ++ r5) ++ [32, 105, 110, 32]).length + r7.length)).bind fun _ =>
    some ((((([108, 101, 116, 32] ++ a.text) ++ [32, 61, 32]) ++ r5) ++ [32, 105, 110, 32]) ++ r7)
  else
  bif (a.kind == 9) then
    (gd ([102, 111, 114, 32].length + a.text.length)).bind fun _ =>
    (gd (([102, 111, 114, 32] ++ a.text).length + [32, 105, 110, 32].length)).bind fun _ =>
    (idx a.args 0).bind fun e8 =>
    (rsL12Text (reExpr e8)).bind fun r9 =>
    (gd ((([102, 111, 114, 32] ++ a.text) ++ [32, 105, 110, 32]).length + r9.length)).bind fun _ =>
    (gd (((([102, 111, 114, 32] ++ a.text) ++ [32, 105, 110, 32]) ++ r9).length + [32, 100, 111, 32].length)).bind fun _ =>
    (idx a.args 1).bind fun e10 =>
    (rsL12Text (reExpr e10)).bind fun r11 =>
    (gd ((((([102, 111, 114, 32] ++ a.text) ++ [32, 105, 110, 32]) ++ r9) ++ [32, 100, 111, 32]).length + r11.length)).bind fun _ =>
    some ((((([102, 111, 114, 32] ++ a.text) ++ [32, 105, 110, 32]) ++ r9) ++ [32, 100, 111, 32]) ++ r11)
  else
  bif (a.kind == 8) then
    (idx a.args 0).bind fun e12 =>
    (rsL12Text (reExpr e12)).bind fun r13 =>
    (gd ([105, 102, 32].length + r13.length)).bind fun _ =>
    (gd (([105, 102, 32] ++ r13).length + [32, 116, 104, 101, 110, 32].length)).bind fun _ =>
    (idx a.args 1).bind fun e14 =>
    (rsL12Text (reExpr e14)).bind fun r15 =>
    (gd ((([105, 102, 32] ++ r13) ++ [32, 116, 104, 101, 110, 32]).length + r15.length)).bind fun _ =>
    (gd (((([105, 102, 32] ++ r13) ++ [32, 116, 104, 101, 110, 32]) ++ r15).length + [32, 101, 108, 115, 101, 32].length)).bind fun _ =>
    (idx a.args 2).bind fun e16 =>
    (rsL12Text (reExpr e16)).bind fun r17 =>
    (gd ((((([105, 102, 32] ++ r13) ++ [32, 116, 104, 101, 110, 32]) ++ r15) ++ [32, 101, 108, 115, 101, 32]).length + r17.length)).bind fun _ =>
    some ((((([105, 102, 32] ++ r13) ++ [32, 116, 104, 101, 110, 32]) ++ r15) ++ [32, 101, 108, 115, 101, 32]) ++ r17)
  else
  (sLevelOf (reExpr a)).bind fun r18 =>
  bif (r18 == 1) then
    (idx a.args 0).bind fun e19 =>
    (rsL12At (reExpr e19) 2).bind fun r20 =>
    (gd (r20.length + [32].length)).bind fun _ =>
    (sOpSymbol a.n).bind fun r21 =>
    (gd ((r20 ++ [32]).length + r21.length)).bind fun _ =>
    (gd (((r20 ++ [32]) ++ r21).length + [32].length)).bind fun _ =>
    (idx a.args 1).bind fun e22 =>
    (rsL12At (reExpr e22) (w64 (r18 + 1))).bind fun r23 =>
    (gd ((((r20 ++ [32]) ++ r21) ++ [32]).length + r23.length)).bind fun _ =>
    some ((((r20 ++ [32]) ++ r21) ++ [32]) ++ r23)
  else
  (idx a.args 0).bind fun e24 =>
  (rsL12At (reExpr e24) r18).bind fun r25 =>
  (gd (r25.length + [32].length)).bind fun _ =>
  (sOpSymbol a.n).bind fun r26 =>
  (gd ((r25 ++ [32]).length + r26.length)).bind fun _ =>
  (gd (((r25 ++ [32]) ++ r26).length + [32].length)).bind fun _ =>
  (idx a.args 1).bind fun e27 =>
  (rsL12At (reExpr e27) (w64 (r18 + 1))).bind fun r28 =>
  (gd ((((r25 ++ [32]) ++ r26) ++ [32]).length + r28.length)).bind fun _ =>
  some ((((r25 ++ [32]) ++ r26) ++ [32]) ++ r28)
noncomputable def sL12ListB (rsL12Text : GExpr → Option (Str)) (rsL12List : (List GExpr) → Option (Str)) (rsL12At : GExpr → Int → Option (Str)) (a : List GExpr) : Option (Str) :=
  loopD (fun (x1 : (List GExpr) × (List Str) × Int) =>
    bif (decide (x1.2.2 < (x1.1.length : Int))) then
      (idx x1.1 x1.2.2).bind fun e2 =>
      (rsL12Text (reExpr e2)).bind fun r3 =>
      (gd (x1.2.1.length + ([r3] : List Str).length)).bind fun _ =>
      some (.inl (x1.1, x1.2.1 ++ ([r3] : List Str), w64 (x1.2.2 + 1)))
    else
      (
        (sJoin x1.2.1 [44, 32]).bind fun r4 =>
        some (r4)
      ).bind fun r => some (.inr r)
  ) (a, [], 0)
noncomputable def sL12AtB (rsL12Text : GExpr → Option (Str)) (rsL12List : (List GExpr) → Option (Str)) (rsL12At : GExpr → Int → Option (Str)) (a : GExpr) (b : Int) : Option (Str) :=
  (rsL12Text (reExpr a)).bind fun r1 =>
  (sLevelOf (reExpr a)).bind fun r2 =>
  bif (decide (r2 < b)) then
    (gd ([40].length + r1.length)).bind fun _ =>
    (gd (([40] ++ r1).length + [41].length)).bind fun _ =>
    some (([40] ++ r1) ++ [41])
  else
    some (r1)
noncomputable def sL12TextG : Nat → (GExpr → Option (Str)) × ((List GExpr) → Option (Str)) × (GExpr → Int → Option (Str))
  | 0 => (fun _ => none, fun _ => none, fun _ _ => none)
  | n + 1 => (sL12TextB (sL12TextG n).1 (sL12TextG n).2.1 (sL12TextG n).2.2, sL12ListB (sL12TextG n).1 (sL12TextG n).2.1 (sL12TextG n).2.2, sL12AtB (sL12TextG n).1 (sL12TextG n).2.1 (sL12TextG n).2.2)
noncomputable def sL12Text (a : GExpr) : Option (Str) := (sL12TextG (siz a + 1)).1 a
noncomputable def sL12TextFS : Fsp := { fid := 229, ps := [⟨true, .base .expr⟩], rs := [⟨false, .base .str⟩], ex := true, fn := fun x => sL12Text x }
noncomputable def sL12TextFSN (n : Nat) : Fsp := { fid := 229, ps := [⟨true, .base .expr⟩], rs := [⟨false, .base .str⟩], ex := true, fn := fun x => (sL12TextG n).1 x }
noncomputable def sL12List (a : List GExpr) : Option (Str) := (sL12TextG (siz a + 1)).2.1 a
noncomputable def sL12ListFS : Fsp := { fid := 238, ps := [⟨false, .list (.base .expr)⟩], rs := [⟨false, .base .str⟩], ex := true, fn := fun x => sL12List x }
noncomputable def sL12ListFSN (n : Nat) : Fsp := { fid := 238, ps := [⟨false, .list (.base .expr)⟩], rs := [⟨false, .base .str⟩], ex := true, fn := fun x => (sL12TextG n).2.1 x }
noncomputable def sL12At (a : GExpr) (b : Int) : Option (Str) := (sL12TextG (siz a + 1)).2.2 a b
noncomputable def sL12AtFS : Fsp := { fid := 240, ps := [⟨true, .base .expr⟩, ⟨false, .base .int⟩], rs := [⟨false, .base .str⟩], ex := true, fn := fun x => sL12At x.1 x.2 }
noncomputable def sL12AtFSN (n : Nat) : Fsp := { fid := 240, ps := [⟨true, .base .expr⟩, ⟨false, .base .int⟩], rs := [⟨false, .base .str⟩], ex := true, fn := fun x => (sL12TextG n).2.2 x.1 x.2 }
noncomputable def sFormatExpr (a : GExpr) : Option (Str) :=
  (sIsValidExpr (reExpr a)).bind fun r1 =>
  bif (!r1) then
    some ([])
  else
    (sL12Text (reExpr a)).bind fun r2 =>
    some (r2)
noncomputable def sFormatExprFS : Fsp := { fid := 201, ps := [⟨true, .base .expr⟩], rs := [⟨false, .base .str⟩], ex := true, fn := fun x => sFormatExpr x }
noncomputable def sL17Expr (a : GCur) : Option (GCur × Str) :=
  (sL1Below a 9).bind fun r1 =>
  bif (r1.2 == 0) then
    (sL1Pick r1.1 ([[97], [98], [99], [100], [101]] : List Str)).bind fun r2 =>
    (gd (r2.2.length + [32, 43, 32].length)).bind fun _ =>
    (sL1Pick r2.1 ([[97], [98], [99], [100], [101]] : List Str)).bind fun r3 =>
    (gd ((r2.2 ++ [32, 43, 32]).length + r3.2.length)).bind fun _ =>
    some (r3.1, (r2.2 ++ [32, 43, 32]) ++ r3.2)
  else
  bif (r1.2 == 1) then
    (sL1Pick r1.1 ([[97], [98], [99], [100], [101]] : List Str)).bind fun r4 =>
    (gd (r4.2.length + [32, 43, 32].length)).bind fun _ =>
    (sL1Pick r4.1 ([[97], [98], [99], [100], [101]] : List Str)).bind fun r5 =>
    (gd ((r4.2 ++ [32, 43, 32]).length + r5.2.length)).bind fun _ =>
    some (r5.1, (r4.2 ++ [32, 43, 32]) ++ r5.2)
  else
  bif (r1.2 == 2) then
    (sL1Pick r1.1 ([[97], [98], [99], [100], [101]] : List Str)).bind fun r6 =>
    (gd ([108, 101, 110, 40, 34, 97, 98, 34, 41, 32, 42, 32].length + r6.2.length)).bind fun _ =>
    some (r6.1, [108, 101, 110, 40, 34, 97, 98, 34, 41, 32, 42, 32] ++ r6.2)
  else
  bif (r1.2 == 3) then
    (sL1Below r1.1 3).bind fun r7 =>
    (sFormatInt r7.2).bind fun r8 =>
    (gd ([119, 104, 101, 114, 101, 40, 34, 97, 34, 44, 32].length + r8.length)).bind fun _ =>
    (gd (([119, 104, 101, 114, 101, 40, 34, 97, 34, 44, 32] ++ r8).length + [44, 32].length)).bind fun _ =>
    (sL1Pick r7.1 ([[97], [98], [99], [100], [101]] : List Str)).bind fun r9 =>
    (gd ((([119, 104, 101, 114, 101, 40, 34, 97, 34, 44, 32] ++ r8) ++ [44, 32]).length + r9.2.length)).bind fun _ =>
    (gd (((([119, 104, 101, 114, 101, 40, 34, 97, 34, 44, 32] ++ r8) ++ [44, 32]) ++ r9.2).length + [41].length)).bind fun _ =>
    some (r9.1, ((([119, 104, 101, 114, 101, 40, 34, 97, 34, 44, 32] ++ r8) ++ [44, 32]) ++ r9.2) ++ [41])
  else
  bif (r1.2 == 4) then
    (sL1Pick r1.1 ([[97], [98], [99], [100], [101]] : List Str)).bind fun r10 =>
    (gd ([103, 114, 111, 117, 112, 40, 34, 97, 34, 44, 32, 34, 98, 34, 44, 32].length + r10.2.length)).bind fun _ =>
    (gd (([103, 114, 111, 117, 112, 40, 34, 97, 34, 44, 32, 34, 98, 34, 44, 32] ++ r10.2).length + [41].length)).bind fun _ =>
    some (r10.1, ([103, 114, 111, 117, 112, 40, 34, 97, 34, 44, 32, 34, 98, 34, 44, 32] ++ r10.2) ++ [41])
  else
  bif (r1.2 == 5) then
    (sL1Pick r1.1 ([[99, 108, 111, 99, 107, 40, 41], [99, 104, 97, 110, 99, 101, 40, 54, 41], [102, 105, 108, 101, 40, 34, 102, 34, 41], [99, 104, 97, 110, 99, 101, 40, 51, 41, 32, 43, 32, 99, 104, 97, 110, 99, 101, 40, 51, 41], [99, 108, 111, 99, 107, 40, 41, 32, 43, 32, 97]] : List Str)).bind fun r11 =>
    some (r11.1, r11.2)
  else
  bif (r1.2 == 6) then
    (sL1Pick r1.1 ([[49, 32, 43], [108, 101, 116, 32, 120, 32, 61, 32, 105, 110, 32, 50], [115, 117, 109, 40, 91, 49, 44, 32, 50, 93], [55], [105, 102, 32, 97, 32, 60, 32, 51, 32, 116, 104, 101, 110, 32, 98, 32, 101, 108, 115, 101, 32, 99], [102, 111, 114, 32, 117, 32, 105, 110, 32, 91, 49, 44, 32, 50, 44, 32, 51, 93, 32, 100, 111, 32, 117, 32, 42, 32, 97], [106, 111, 105, 110, 40, 34, 97, 34, 44, 32, 100, 44, 32, 101, 41], [115, 117, 109, 40, 99, 111, 108, 117, 109, 110, 40, 34, 98, 34, 44, 32, 100, 41, 41], [108, 101, 116, 32, 97, 32, 61, 32, 52, 32, 105, 110, 32, 97, 32, 43, 32, 98]] : List Str)).bind fun r12 =>
    some (r12.1, r12.2)
  else
    (sL10Make r1.1 ([[97], [98], [99], [100], [101]] : List Str) 2).bind fun r13 =>
    (sFormatExpr (reExpr r13.2)).bind fun r14 =>
    bif (decide ((r14.length : Int) > 120)) then
      some (r13.1, [49])
    else
      some (r13.1, r14)
noncomputable def sL17ExprFS : Fsp := { fid := 181, ps := [⟨true, .base .cur⟩], rs := [⟨true, .base .cur⟩, ⟨false, .base .str⟩], ex := false, fn := fun x => sL17Expr x }
noncomputable def sSplitByte (a : Str) (b : Int) : Option ((List Str)) :=
  loopD (fun (x1 : Str × Int × (List Str) × Int × Int) =>
    bif (decide (x1.2.2.2.2 ≤ (x1.1.length : Int))) then
      bif (x1.2.2.2.2 == (x1.1.length : Int)) then
        (eff.cutL x1.1 (some x1.2.2.2.1) (some x1.2.2.2.2)).bind fun r2 =>
        (gd (x1.2.2.1.length + ([r2] : List Str).length)).bind fun _ =>
        some (.inl (x1.1, x1.2.1, x1.2.2.1 ++ ([r2] : List Str), w64 (x1.2.2.2.2 + 1), w64 (x1.2.2.2.2 + 1)))
      else
        (idx x1.1 x1.2.2.2.2).bind fun c3 =>
        bif ((c3.toNat : Int) == x1.2.1) then
          (eff.cutL x1.1 (some x1.2.2.2.1) (some x1.2.2.2.2)).bind fun r4 =>
          (gd (x1.2.2.1.length + ([r4] : List Str).length)).bind fun _ =>
          some (.inl (x1.1, x1.2.1, x1.2.2.1 ++ ([r4] : List Str), w64 (x1.2.2.2.2 + 1), w64 (x1.2.2.2.2 + 1)))
        else
          some (.inl (x1.1, x1.2.1, x1.2.2.1, x1.2.2.2.1, w64 (x1.2.2.2.2 + 1)))
    else
      some (.inr (x1.2.2.1))
  ) (a, b, [], 0, 0)
noncomputable def sSplitByteFS : Fsp := { fid := 202, ps := [⟨false, .base .str⟩, ⟨false, .base .u8⟩], rs := [⟨false, .list (.base .str)⟩], ex := true, fn := fun x => sSplitByte x.1 x.2 }
noncomputable def sL1Turned (a : GCur) (b : Str) (c : List Str) : Option (GCur × Str) :=
  (sL1Below a (w64 ((b.length : Int) + 1))).bind fun r1 =>
  (sL1Below r1.1 6).bind fun r2 =>
  bif (r2.2 == 0) then
    (eff.cutL b none (some r1.2)).bind fun r3 =>
    (sL1Pick r2.1 c).bind fun r4 =>
    (gd (r3.length + r4.2.length)).bind fun _ =>
    (eff.cutL b (some r1.2) none).bind fun r5 =>
    (gd ((r3 ++ r4.2).length + r5.length)).bind fun _ =>
    some (r4.1, (r3 ++ r4.2) ++ r5)
  else
    bif (r2.2 == 1) then
      (eff.cutL b none (some r1.2)).bind fun r6 =>
      some (r2.1, r6)
    else
      some (r2.1, b)
noncomputable def sL1TurnedFS : Fsp := { fid := 204, ps := [⟨true, .base .cur⟩, ⟨false, .base .str⟩, ⟨false, .list (.base .str)⟩], rs := [⟨true, .base .cur⟩, ⟨false, .base .str⟩], ex := false, fn := fun x => sL1Turned x.1 x.2.1 x.2.2 }
noncomputable def sL17Data (a : GCur) : Option (GCur × Str) :=
  (sL1Pick a ([[97, 32, 98], [97, 32, 98], [97, 32, 98], [97, 32, 99], [98], [97, 32, 98, 32, 99]] : List Str)).bind fun r1 =>
  (sL1Below r1.1 4).bind fun r2 =>
  (sSplitByte r1.2 32).bind fun r3 =>
  loopD (fun (x4 : (List Int) × Int × Int × Str × Int × Int × Int) =>
    bif (decide (x4.2.2.2.2.2.2 < x4.2.2.2.2.1)) then
      loopD (fun (x5 : (List Int) × Int × Int × Str × Int × Int × Int × (List Str) × Int) =>
        bif (decide (x5.2.2.2.2.2.2.2.2 < x5.2.2.2.2.2.1)) then
          (sL1Below (GCur.mk x5.1 x5.2.1 x5.2.2.1) 4).bind fun r6 =>
          (sFormatInt r6.2).bind fun r7 =>
          (gd (x5.2.2.2.2.2.2.2.1.length + ([r7] : List Str).length)).bind fun _ =>
          some (.inl (r6.1.b, r6.1.i, r6.1.h, x5.2.2.2.1, x5.2.2.2.2.1, x5.2.2.2.2.2.1, x5.2.2.2.2.2.2.1, x5.2.2.2.2.2.2.2.1 ++ ([r7] : List Str), w64 (x5.2.2.2.2.2.2.2.2 + 1)))
        else
          (
            (gd (x5.2.2.2.1.length + [59, 32].length)).bind fun _ =>
            (sJoin x5.2.2.2.2.2.2.2.1 [32]).bind fun r8 =>
            (gd ((x5.2.2.2.1 ++ [59, 32]).length + r8.length)).bind fun _ =>
            some (.inl (x5.1, x5.2.1, x5.2.2.1, (x5.2.2.2.1 ++ [59, 32]) ++ r8, x5.2.2.2.2.1, x5.2.2.2.2.2.1, w64 (x5.2.2.2.2.2.2.1 + 1)))
          ).bind fun r => some (.inr r)
      ) (x4.1, x4.2.1, x4.2.2.1, x4.2.2.2.1, x4.2.2.2.2.1, x4.2.2.2.2.2.1, x4.2.2.2.2.2.2, [], 0)
    else
      (
        (sL1Once (GCur.mk x4.1 x4.2.1 x4.2.2.1) 12).bind fun r9 =>
        bif r9.2 then
          (sL1Turned r9.1 x4.2.2.2.1 ([[59], [32], [120], [59, 32, 49], [45]] : List Str)).bind fun r10 =>
          some (r10.1, r10.2)
        else
          some (r9.1, x4.2.2.2.1)
      ).bind fun r => some (.inr r)
  ) (r2.1.b, r2.1.i, r2.1.h, r1.2, r2.2, (r3.length : Int), 0)
noncomputable def sL17DataFS : Fsp := { fid := 186, ps := [⟨true, .base .cur⟩], rs := [⟨true, .base .cur⟩, ⟨false, .base .str⟩], ex := false, fn := fun x => sL17Data x }
noncomputable def sL17Cell (a : GCur) (b : Int) : Option (GCur × GCell) :=
  (sL1Below a 3).bind fun r1 =>
  (sL1PickInt r1.1 [1, 2, 2, 2, 2, 3, 4, 4]).bind fun r2 =>
  (sL1Pick r2.1 ([[97], [98], [99], [100], [101]] : List Str)).bind fun r3 =>
  bif (r2.2 == 1) then
    (sL1Pick r3.1 ([[65, 32, 104, 101, 97, 100, 105, 110, 103], [], [115, 101, 101, 32, 34, 97, 34, 32, 97, 110, 100, 32, 98]] : List Str)).bind fun r4 =>
    some (r4.1, GCell.mk b (w64 (1 + r1.2)) r2.2 [] r4.2 0)
  else
  bif (r2.2 == 2) then
    (sL17Expr r3.1).bind fun r5 =>
    some (r5.1, GCell.mk b (w64 (1 + r1.2)) r2.2 r3.2 r5.2 0)
  else
    bif (r2.2 == 3) then
      (sL1Below r3.1 9).bind fun r6 =>
      some (r6.1, GCell.mk b (w64 (1 + r1.2)) r2.2 r3.2 [] r6.2)
    else
      bif (r2.2 == 4) then
        (sL17Data r3.1).bind fun r7 =>
        some (r7.1, GCell.mk b (w64 (1 + r1.2)) r2.2 r3.2 r7.2 0)
      else
        some (r3.1, GCell.mk b (w64 (1 + r1.2)) r2.2 r3.2 [] 0)
noncomputable def sL17CellFS : Fsp := { fid := 151, ps := [⟨true, .base .cur⟩, ⟨false, .base .int⟩], rs := [⟨true, .base .cur⟩, ⟨true, .base .cell⟩], ex := false, fn := fun x => sL17Cell x.1 x.2 }
noncomputable def sL41Edit (a : GCur) : Option (GCur × GEdit) :=
  (sL1PickInt a [1, 1, 1, 4, 4, 4, 3, 2, 5, 6]).bind fun r1 =>
  (sL1Below r1.1 4).bind fun r2 =>
  (sL1Below r2.1 5).bind fun r3 =>
  (sL17Cell r3.1 (w64 (1 + r3.2))).bind fun r4 =>
  (idx ([[], [97], [98], [99], [100], [101]] : List Str) r4.2.id).bind fun _ =>
  (([[], [97], [98], [99], [100], [101]] : List Str)[r4.2.id.toNat]?).bind fun e6 =>
  bif (r4.2.kind == 1) then
    (sL17Expr r4.1).bind fun r7 =>
    some (r7.1, GEdit.mk r1.2 r2.2 (GCell.mk r4.2.id r4.2.version 2 e6 r7.2 r4.2.n))
  else
    some (r4.1, GEdit.mk r1.2 r2.2 (GCell.mk r4.2.id r4.2.version r4.2.kind e6 r4.2.code r4.2.n))
noncomputable def sL41EditFS : Fsp := { fid := 146, ps := [⟨true, .base .cur⟩], rs := [⟨true, .base .cur⟩, ⟨true, .base .edit⟩], ex := false, fn := fun x => sL41Edit x }
noncomputable def sCountBy (a : List GOp) (b : Int) : Option (Int) :=
  loopD (fun (x1 : (List GOp) × Int × Int × Int) =>
    bif (decide (x1.2.2.2 < (x1.1.length : Int))) then
      (idx x1.1 x1.2.2.2).bind fun e2 =>
      bif (e2.by_ == x1.2.1) then
        some (.inl (x1.1, x1.2.1, w64 (x1.2.2.1 + 1), w64 (x1.2.2.2 + 1)))
      else
        some (.inl (x1.1, x1.2.1, x1.2.2.1, w64 (x1.2.2.2 + 1)))
    else
      some (.inr (x1.2.2.1))
  ) (a, b, 0, 0)
noncomputable def sCountByFS : Fsp := { fid := 147, ps := [⟨false, .list (.base .op)⟩, ⟨false, .base .int⟩], rs := [⟨false, .base .int⟩], ex := true, fn := fun x => sCountBy x.1 x.2 }
noncomputable def sL14Read (a : GCur) : Option (GCur × GRead) :=
  (sL1Below a 3).bind fun r1 =>
  (sL1Below r1.1 7).bind fun r2 =>
  (sL1Pick r2.1 ([[102], [103], [104], [122]] : List Str)).bind fun r3 =>
  (sL1Below r3.1 3).bind fun r4 =>
  some (r4.1, GRead.mk (w64 (1 + r1.2)) r2.2 r4.2 r3.2 (GVal.mk 0 0 0 [] [] [] []))
noncomputable def sL14ReadFS : Fsp := { fid := 182, ps := [⟨true, .base .cur⟩], rs := [⟨true, .base .cur⟩, ⟨true, .base .read⟩], ex := false, sh := true, fn := fun x => sL14Read x }
noncomputable def sNumberValue (a : Int) : Option (GVal) :=
  some (GVal.mk 1 a 0 [] [] [] [])
noncomputable def sNumberValueFS : Fsp := { fid := 183, ps := [⟨false, .base .int⟩], rs := [⟨true, .base .val⟩], ex := true, fn := fun x => sNumberValue x }
noncomputable def sL16Tape (a : GCur) : Option (GCur × (List GRead)) :=
  (sL1Below a 4).bind fun r1 =>
  loopD (fun (x2 : (List Int) × Int × Int × (List GRead) × Int × Int) =>
    bif (decide (x2.2.2.2.2.2 < x2.2.2.2.2.1)) then
      (sL14Read (GCur.mk x2.1 x2.2.1 x2.2.2.1)).bind fun r3 =>
      bif (r3.2.kind != 2) then
        bif (r3.2.kind != 3) then
          (sNumberValue (w64 (50 + x2.2.2.2.2.2))).bind fun r4 =>
          (gd (x2.2.2.2.1.length + ([GRead.mk r3.2.kind 0 r3.2.time [] (reVal r4)]).length)).bind fun _ =>
          some (.inl (r3.1.b, r3.1.i, r3.1.h, x2.2.2.2.1 ++ ([GRead.mk r3.2.kind 0 r3.2.time [] (reVal r4)]), x2.2.2.2.2.1, w64 (x2.2.2.2.2.2 + 1)))
        else
          (sNumberValue (w64 (50 + x2.2.2.2.2.2))).bind fun r5 =>
          (gd (x2.2.2.2.1.length + [GRead.mk r3.2.kind 0 r3.2.time r3.2.text (reVal r5)].length)).bind fun _ =>
          some (.inl (r3.1.b, r3.1.i, r3.1.h, x2.2.2.2.1 ++ [GRead.mk r3.2.kind 0 r3.2.time r3.2.text (reVal r5)], x2.2.2.2.2.1, w64 (x2.2.2.2.2.2 + 1)))
      else
        bif (r3.2.kind != 3) then
          (sNumberValue (w64 (50 + x2.2.2.2.2.2))).bind fun r6 =>
          (gd (x2.2.2.2.1.length + ([GRead.mk r3.2.kind r3.2.n r3.2.time [] (reVal r6)]).length)).bind fun _ =>
          some (.inl (r3.1.b, r3.1.i, r3.1.h, x2.2.2.2.1 ++ ([GRead.mk r3.2.kind r3.2.n r3.2.time [] (reVal r6)]), x2.2.2.2.2.1, w64 (x2.2.2.2.2.2 + 1)))
        else
          (sNumberValue (w64 (50 + x2.2.2.2.2.2))).bind fun r7 =>
          (gd (x2.2.2.2.1.length + [GRead.mk r3.2.kind r3.2.n r3.2.time r3.2.text (reVal r7)].length)).bind fun _ =>
          some (.inl (r3.1.b, r3.1.i, r3.1.h, x2.2.2.2.1 ++ [GRead.mk r3.2.kind r3.2.n r3.2.time r3.2.text (reVal r7)], x2.2.2.2.2.1, w64 (x2.2.2.2.2.2 + 1)))
    else
      some (.inr (GCur.mk x2.1 x2.2.1 x2.2.2.1, x2.2.2.2.1))
  ) (r1.1.b, r1.1.i, r1.1.h, [], r1.2, 0)
noncomputable def sL16TapeFS : Fsp := { fid := 149, ps := [⟨true, .base .cur⟩], rs := [⟨true, .base .cur⟩, ⟨false, .list (.base .read)⟩], ex := false, sh := true, fn := fun x => sL16Tape x }
noncomputable def sL41Make (a : GCur) (b : List GOp) (c : Int) : Option (GCur × GOp) :=
  (sLastTime b).bind fun r1 =>
  (sL1Below a 2).bind fun r2 =>
  (sL41Edit r2.1).bind fun r3 =>
  loopD (fun (x4 : (List Int) × Int × Int × (List GOp) × Int × Int × Int × (List Int) × Int × Int × Int × Int × Int × Str × Str × Int × Str × Str × Int × Int × (List GRead) × Int × Int × Int × (List Int) × Int × Int × Int × Int × Int × Str × Str × Int × Str × Str × Int × Int × (List GRead) × Int) =>
    bif (decide (x4.2.2.2.2.2.2.2.2.2.2.2.2.2.2.2.2.2.2.2.2.2.2.2.2.2.2.2.2.2.2.2.2.2.2.2.2.2.2 < 3)) then
      (sCountBy x4.2.2.2.1 x4.2.2.2.2.2.2.2.2.2.2.2.2.2.2.2.2.2.2.2.2.2.2.2.2.2.2.2.2.2.2.2.2.2.2.2.2.2.2).bind fun r5 =>
      (gd (x4.2.2.2.2.2.2.2.2.2.2.2.2.2.2.2.2.2.2.2.2.2.2.2.2.1.length + [r5].length)).bind fun _ =>
      some (.inl (x4.1, x4.2.1, x4.2.2.1, x4.2.2.2.1, x4.2.2.2.2.1, x4.2.2.2.2.2.1, x4.2.2.2.2.2.2.1, x4.2.2.2.2.2.2.2.1, x4.2.2.2.2.2.2.2.2.1, x4.2.2.2.2.2.2.2.2.2.1, x4.2.2.2.2.2.2.2.2.2.2.1, x4.2.2.2.2.2.2.2.2.2.2.2.1, x4.2.2.2.2.2.2.2.2.2.2.2.2.1, x4.2.2.2.2.2.2.2.2.2.2.2.2.2.1, x4.2.2.2.2.2.2.2.2.2.2.2.2.2.2.1, x4.2.2.2.2.2.2.2.2.2.2.2.2.2.2.2.1, x4.2.2.2.2.2.2.2.2.2.2.2.2.2.2.2.2.1, x4.2.2.2.2.2.2.2.2.2.2.2.2.2.2.2.2.2.1, x4.2.2.2.2.2.2.2.2.2.2.2.2.2.2.2.2.2.2.1, x4.2.2.2.2.2.2.2.2.2.2.2.2.2.2.2.2.2.2.2.1, x4.2.2.2.2.2.2.2.2.2.2.2.2.2.2.2.2.2.2.2.2.1, x4.2.2.2.2.2.2.2.2.2.2.2.2.2.2.2.2.2.2.2.2.2.1, x4.2.2.2.2.2.2.2.2.2.2.2.2.2.2.2.2.2.2.2.2.2.2.1, x4.2.2.2.2.2.2.2.2.2.2.2.2.2.2.2.2.2.2.2.2.2.2.2.1, x4.2.2.2.2.2.2.2.2.2.2.2.2.2.2.2.2.2.2.2.2.2.2.2.2.1 ++ [r5], x4.2.2.2.2.2.2.2.2.2.2.2.2.2.2.2.2.2.2.2.2.2.2.2.2.2.1, x4.2.2.2.2.2.2.2.2.2.2.2.2.2.2.2.2.2.2.2.2.2.2.2.2.2.2.1, x4.2.2.2.2.2.2.2.2.2.2.2.2.2.2.2.2.2.2.2.2.2.2.2.2.2.2.2.1, x4.2.2.2.2.2.2.2.2.2.2.2.2.2.2.2.2.2.2.2.2.2.2.2.2.2.2.2.2.1, x4.2.2.2.2.2.2.2.2.2.2.2.2.2.2.2.2.2.2.2.2.2.2.2.2.2.2.2.2.2.1, x4.2.2.2.2.2.2.2.2.2.2.2.2.2.2.2.2.2.2.2.2.2.2.2.2.2.2.2.2.2.2.1, x4.2.2.2.2.2.2.2.2.2.2.2.2.2.2.2.2.2.2.2.2.2.2.2.2.2.2.2.2.2.2.2.1, x4.2.2.2.2.2.2.2.2.2.2.2.2.2.2.2.2.2.2.2.2.2.2.2.2.2.2.2.2.2.2.2.2.1, x4.2.2.2.2.2.2.2.2.2.2.2.2.2.2.2.2.2.2.2.2.2.2.2.2.2.2.2.2.2.2.2.2.2.1, x4.2.2.2.2.2.2.2.2.2.2.2.2.2.2.2.2.2.2.2.2.2.2.2.2.2.2.2.2.2.2.2.2.2.2.1, x4.2.2.2.2.2.2.2.2.2.2.2.2.2.2.2.2.2.2.2.2.2.2.2.2.2.2.2.2.2.2.2.2.2.2.2.1, x4.2.2.2.2.2.2.2.2.2.2.2.2.2.2.2.2.2.2.2.2.2.2.2.2.2.2.2.2.2.2.2.2.2.2.2.2.1, x4.2.2.2.2.2.2.2.2.2.2.2.2.2.2.2.2.2.2.2.2.2.2.2.2.2.2.2.2.2.2.2.2.2.2.2.2.2.1, w64 (x4.2.2.2.2.2.2.2.2.2.2.2.2.2.2.2.2.2.2.2.2.2.2.2.2.2.2.2.2.2.2.2.2.2.2.2.2.2.2 + 1)))
    else
    (
      (sL1Below (GCur.mk x4.1 x4.2.1 x4.2.2.1) 8).bind fun r6 =>
      bif (r6.2 == 0) then
        (sL1Pick r6.1 ([[97], [98], [99]] : List Str)).bind fun r7 =>
        (sL1Pick r7.1 ([[120], [121], [116, 111, 116, 97, 108]] : List Str)).bind fun r8 =>
        some (r8.1, GOp.mk x4.2.2.2.2.2.2.2.2.2.2.2.2.2.2.2.2.2.2.2.2.2.1 x4.2.2.2.2.2.2.2.2.2.2.2.2.2.2.2.2.2.2.2.2.2.2.1 2 x4.2.2.2.2.2.2.2.2.2.2.2.2.2.2.2.2.2.2.2.2.2.2.2.2.1 (GEdit.mk 0 0 (GCell.mk 0 0 0 [] [] 0)) r7.2 r8.2 x4.2.2.2.2.2.2.2.2.2.2.2.2.2.2.2.2.2.2.2.2.2.2.2.2.2.2.2.2.2.2.2.2.2.2.2.1 x4.2.2.2.2.2.2.2.2.2.2.2.2.2.2.2.2.2.2.2.2.2.2.2.2.2.2.2.2.2.2.2.2.2.2.2.2.1 x4.2.2.2.2.2.2.2.2.2.2.2.2.2.2.2.2.2.2.2.2.2.2.2.2.2.2.2.2.2.2.2.2.2.2.2.2.2.1)
      else
      bif (r6.2 == 1) then
        (sL1Pick r6.1 ([[97], [98], [99]] : List Str)).bind fun r9 =>
        (sL1Pick r9.1 ([[120], [121], [116, 111, 116, 97, 108]] : List Str)).bind fun r10 =>
        some (r10.1, GOp.mk x4.2.2.2.2.2.2.2.2.2.2.2.2.2.2.2.2.2.2.2.2.2.1 x4.2.2.2.2.2.2.2.2.2.2.2.2.2.2.2.2.2.2.2.2.2.2.1 2 x4.2.2.2.2.2.2.2.2.2.2.2.2.2.2.2.2.2.2.2.2.2.2.2.2.1 (GEdit.mk 0 0 (GCell.mk 0 0 0 [] [] 0)) r9.2 r10.2 x4.2.2.2.2.2.2.2.2.2.2.2.2.2.2.2.2.2.2.2.2.2.2.2.2.2.2.2.2.2.2.2.2.2.2.2.1 x4.2.2.2.2.2.2.2.2.2.2.2.2.2.2.2.2.2.2.2.2.2.2.2.2.2.2.2.2.2.2.2.2.2.2.2.2.1 x4.2.2.2.2.2.2.2.2.2.2.2.2.2.2.2.2.2.2.2.2.2.2.2.2.2.2.2.2.2.2.2.2.2.2.2.2.2.1)
      else
        bif (r6.2 == 2) then
          (sL1Below r6.1 5).bind fun r11 =>
          (sL1Below r11.1 20).bind fun r12 =>
          (sL16Tape r12.1).bind fun r13 =>
          some (r13.1, GOp.mk x4.2.2.2.2.2.2.2.2.2.2.2.2.2.2.2.2.2.2.2.2.2.1 x4.2.2.2.2.2.2.2.2.2.2.2.2.2.2.2.2.2.2.2.2.2.2.1 3 x4.2.2.2.2.2.2.2.2.2.2.2.2.2.2.2.2.2.2.2.2.2.2.2.2.1 (GEdit.mk 0 0 (GCell.mk 0 0 0 [] [] 0)) x4.2.2.2.2.2.2.2.2.2.2.2.2.2.2.2.2.2.2.2.2.2.2.2.2.2.2.2.2.2.2.2.2.2.1 x4.2.2.2.2.2.2.2.2.2.2.2.2.2.2.2.2.2.2.2.2.2.2.2.2.2.2.2.2.2.2.2.2.2.2.1 (w64 (1 + r11.2)) (w64 (3 + r12.2)) r13.2)
        else
          some (r6.1, GOp.mk x4.2.2.2.2.2.2.2.2.2.2.2.2.2.2.2.2.2.2.2.2.2.1 x4.2.2.2.2.2.2.2.2.2.2.2.2.2.2.2.2.2.2.2.2.2.2.1 x4.2.2.2.2.2.2.2.2.2.2.2.2.2.2.2.2.2.2.2.2.2.2.2.1 x4.2.2.2.2.2.2.2.2.2.2.2.2.2.2.2.2.2.2.2.2.2.2.2.2.1 (GEdit.mk x4.2.2.2.2.2.2.2.2.2.2.2.2.2.2.2.2.2.2.2.2.2.2.2.2.2.1 x4.2.2.2.2.2.2.2.2.2.2.2.2.2.2.2.2.2.2.2.2.2.2.2.2.2.2.1 (GCell.mk x4.2.2.2.2.2.2.2.2.2.2.2.2.2.2.2.2.2.2.2.2.2.2.2.2.2.2.2.1 x4.2.2.2.2.2.2.2.2.2.2.2.2.2.2.2.2.2.2.2.2.2.2.2.2.2.2.2.2.1 x4.2.2.2.2.2.2.2.2.2.2.2.2.2.2.2.2.2.2.2.2.2.2.2.2.2.2.2.2.2.1 x4.2.2.2.2.2.2.2.2.2.2.2.2.2.2.2.2.2.2.2.2.2.2.2.2.2.2.2.2.2.2.1 x4.2.2.2.2.2.2.2.2.2.2.2.2.2.2.2.2.2.2.2.2.2.2.2.2.2.2.2.2.2.2.2.1 x4.2.2.2.2.2.2.2.2.2.2.2.2.2.2.2.2.2.2.2.2.2.2.2.2.2.2.2.2.2.2.2.2.1)) x4.2.2.2.2.2.2.2.2.2.2.2.2.2.2.2.2.2.2.2.2.2.2.2.2.2.2.2.2.2.2.2.2.2.1 x4.2.2.2.2.2.2.2.2.2.2.2.2.2.2.2.2.2.2.2.2.2.2.2.2.2.2.2.2.2.2.2.2.2.2.1 x4.2.2.2.2.2.2.2.2.2.2.2.2.2.2.2.2.2.2.2.2.2.2.2.2.2.2.2.2.2.2.2.2.2.2.2.1 x4.2.2.2.2.2.2.2.2.2.2.2.2.2.2.2.2.2.2.2.2.2.2.2.2.2.2.2.2.2.2.2.2.2.2.2.2.1 x4.2.2.2.2.2.2.2.2.2.2.2.2.2.2.2.2.2.2.2.2.2.2.2.2.2.2.2.2.2.2.2.2.2.2.2.2.2.1)
    ).bind fun r => some (.inr r)
  ) (r3.1.b, r3.1.i, r3.1.h, b, 0, 0, 0, [], 0, 0, 0, 0, 0, [], [], 0, [], [], 0, 0, [], w64 ((w64 (r1 + 1)) + r2.2), c, 1, [], r3.2.kind, r3.2.pos, r3.2.cell.id, r3.2.cell.version, r3.2.cell.kind, r3.2.cell.name, r3.2.cell.code, r3.2.cell.n, [], [], 0, 0, [], 0)
noncomputable def sL41MakeFS : Fsp := { fid := 94, ps := [⟨true, .base .cur⟩, ⟨false, .list (.base .op)⟩, ⟨false, .base .int⟩], rs := [⟨true, .base .cur⟩, ⟨true, .base .op⟩], ex := false, sh := true, fn := fun x => sL41Make x.1 x.2.1 x.2.2 }
noncomputable def sL41Log (a : GCur) (b : Int) : Option (GCur × (List GOp)) :=
  (sL1Below a (w64 (b + 1))).bind fun r1 =>
  loopD (fun (x2 : (List Int) × Int × Int × (List GOp) × Int × Int) =>
    bif (decide (x2.2.2.2.2.2 < x2.2.2.2.2.1)) then
      (sL1Once (GCur.mk x2.1 x2.2.1 x2.2.2.1) 2).bind fun r3 =>
      bif r3.2 then
        (sL1Below r3.1 (w64 ((x2.2.2.2.1.length : Int) + 1))).bind fun r4 =>
        (eff.cutL x2.2.2.2.1 none (some r4.2)).bind fun r5 =>
        (sL1Below r4.1 3).bind fun r6 =>
        (sL41Make r6.1 r5 r6.2).bind fun r7 =>
        (sMergeOps x2.2.2.2.1 [r7.2]).bind fun r8 =>
        some (.inl (r7.1.b, r7.1.i, r7.1.h, r8, x2.2.2.2.2.1, w64 (x2.2.2.2.2.2 + 1)))
      else
        (sL1Below r3.1 3).bind fun r9 =>
        (sL41Make r9.1 x2.2.2.2.1 r9.2).bind fun r10 =>
        (sMergeOps x2.2.2.2.1 [r10.2]).bind fun r11 =>
        some (.inl (r10.1.b, r10.1.i, r10.1.h, r11, x2.2.2.2.2.1, w64 (x2.2.2.2.2.2 + 1)))
    else
      some (.inr (GCur.mk x2.1 x2.2.1 x2.2.2.1, x2.2.2.2.1))
  ) (r1.1.b, r1.1.i, r1.1.h, [], r1.2, 0)
noncomputable def sL41LogFS : Fsp := { fid := 48, ps := [⟨true, .base .cur⟩, ⟨false, .base .int⟩], rs := [⟨true, .base .cur⟩, ⟨false, .list (.base .op)⟩], ex := false, sh := true, fn := fun x => sL41Log x.1 x.2 }
noncomputable def sL41Bent (a : GCur) : Option (GCur × GOp) :=
  (sL41Log a 3).bind fun r1 =>
  (sL1Below r1.1 3).bind fun r2 =>
  (sL41Make r2.1 r1.2 r2.2).bind fun r3 =>
  (sL1Below r3.1 10).bind fun r4 =>
  bif (r4.2 == 0) then
    (sL1PickInt r4.1 [0, 300, 301]).bind fun r5 =>
    some (r5.1, GOp.mk r5.2 r3.2.by_ r3.2.kind r3.2.seen r3.2.edit r3.2.src r3.2.dst r3.2.cell r3.2.version r3.2.reads)
  else
  bif (r4.2 == 1) then
    (sL1PickInt r4.1 [-1, 3]).bind fun r6 =>
    some (r6.1, GOp.mk r3.2.time r6.2 r3.2.kind r3.2.seen r3.2.edit r3.2.src r3.2.dst r3.2.cell r3.2.version r3.2.reads)
  else
  bif (r4.2 == 2) then
    (gd (r3.2.seen.length + [0].length)).bind fun _ =>
    some (r4.1, GOp.mk r3.2.time r3.2.by_ r3.2.kind (r3.2.seen ++ [0]) r3.2.edit r3.2.src r3.2.dst r3.2.cell r3.2.version r3.2.reads)
  else
  bif (r4.2 == 3) then
    (sL1Below r4.1 5).bind fun r7 =>
    some (r7.1, GOp.mk r3.2.time r3.2.by_ r7.2 r3.2.seen r3.2.edit r3.2.src r3.2.dst r3.2.cell r3.2.version r3.2.reads)
  else
  bif (r4.2 == 4) then
    (sL1PickInt r4.1 [-1, 60, 61]).bind fun r8 =>
    (idx r3.2.seen 0).bind fun _ =>
    (r3.2.seen[0]?).bind fun e10 =>
    some (r8.1, GOp.mk r3.2.time r3.2.by_ r3.2.kind (r3.2.seen.set 0 r8.2) r3.2.edit r3.2.src r3.2.dst r3.2.cell r3.2.version r3.2.reads)
  else
    bif (r4.2 == 5) then
      some (r4.1, GOp.mk r3.2.time r3.2.by_ r3.2.kind r3.2.seen r3.2.edit r3.2.src [121] r3.2.cell r3.2.version r3.2.reads)
    else
      some (r4.1, r3.2)
noncomputable def sL41BentFS : Fsp := { fid := 50, ps := [⟨true, .base .cur⟩], rs := [⟨true, .base .cur⟩, ⟨true, .base .op⟩], ex := false, sh := true, fn := fun x => sL41Bent x }
noncomputable def sDrawIsValidLog (a : List Int) : Option ((List GOp)) :=
  (sL1New a).bind fun r1 =>
  (sL41Log r1 6).bind fun r2 =>
  bif (decide ((r2.2.length : Int) > 1)) then
    (sL1Once r2.1 4).bind fun r3 =>
    bif r3.2 then
      (idx r2.2 0).bind fun _ =>
      (r2.2[0]?).bind fun e5 =>
      (idx r2.2 1).bind fun _ =>
      (r2.2[1]?).bind fun e7 =>
      (idx r2.2 0).bind fun _ =>
      (r2.2[0]?).bind fun e9 =>
      (idx (r2.2.set 0 e7) 1).bind fun _ =>
      ((r2.2.set 0 e7)[1]?).bind fun e11 =>
      (sL1Once r3.1 10).bind fun r12 =>
      bif r12.2 then
        (sL41Bent r12.1).bind fun r13 =>
        (gd (((r2.2.set 0 e7).set 1 e5).length + [r13.2].length)).bind fun _ =>
        some (((r2.2.set 0 e7).set 1 e5) ++ [r13.2])
      else
        some ((r2.2.set 0 e7).set 1 e5)
    else
      (sL1Once r3.1 10).bind fun r14 =>
      bif r14.2 then
        (sL41Bent r14.1).bind fun r15 =>
        (gd (r2.2.length + [r15.2].length)).bind fun _ =>
        some (r2.2 ++ [r15.2])
      else
        some (r2.2)
  else
    (sL1Once r2.1 10).bind fun r16 =>
    bif r16.2 then
      (sL41Bent r16.1).bind fun r17 =>
      (gd (r2.2.length + [r17.2].length)).bind fun _ =>
      some (r2.2 ++ [r17.2])
    else
      some (r2.2)
noncomputable def sDrawIsValidLogFS : Fsp := { fid := 9, ps := [⟨false, .list (.base .u8)⟩], rs := [⟨false, .list (.base .op)⟩], ex := false, sh := true, fn := fun x => sDrawIsValidLog x }
noncomputable def iOpBefore (a : GOp) (b : GOp) : Option (Bool) :=
  bif (decide (a.time < b.time)) then
    some (true)
  else
    bif (a.time == b.time) then
      some ((decide (a.by_ < b.by_)))
    else
      some (false)
noncomputable def iOpBeforeFS : Fsp := { fid := 13, ps := [⟨true, .base .op⟩, ⟨true, .base .op⟩], rs := [⟨false, .base .bool⟩], ex := true, fn := fun x => iOpBefore x.1 x.2 }
noncomputable def iWithin (a : Int) (b : Int) (c : Int) : Option (Bool) :=
  bif (decide (b ≤ a)) then
    some ((decide (a ≤ c)))
  else
    some (false)
noncomputable def iWithinFS : Fsp := { fid := 54, ps := [⟨false, .base .int⟩, ⟨false, .base .int⟩, ⟨false, .base .int⟩], rs := [⟨false, .base .bool⟩], ex := true, fn := fun x => iWithin x.1 x.2.1 x.2.2 }
noncomputable def iIsValidOp (a : GOp) : Option (Bool) :=
  (iWithin a.time 1 300).bind fun r1 =>
  bif (!r1) then
    some (false)
  else
  (iWithin a.by_ 0 2).bind fun r2 =>
  bif (!r2) then
    some (false)
  else
  bif ((a.seen.length : Int) != 3) then
    some (false)
  else
  loopD (fun (x3 : Int × Int × Int × (List Int) × Int × Int × Int × Int × Int × Str × Str × Int × Str × Str × Int × Int × (List GRead) × (List Int) × Int × Int) =>
    bif (decide (x3.2.2.2.2.2.2.2.2.2.2.2.2.2.2.2.2.2.2.2 < x3.2.2.2.2.2.2.2.2.2.2.2.2.2.2.2.2.2.2.1)) then
      (idx x3.2.2.2.2.2.2.2.2.2.2.2.2.2.2.2.2.2.1 x3.2.2.2.2.2.2.2.2.2.2.2.2.2.2.2.2.2.2.2).bind fun e4 =>
      (iWithin e4 0 60).bind fun r5 =>
      bif (!r5) then
        some (.inr (false))
      else
        some (.inl (x3.1, x3.2.1, x3.2.2.1, x3.2.2.2.1, x3.2.2.2.2.1, x3.2.2.2.2.2.1, x3.2.2.2.2.2.2.1, x3.2.2.2.2.2.2.2.1, x3.2.2.2.2.2.2.2.2.1, x3.2.2.2.2.2.2.2.2.2.1, x3.2.2.2.2.2.2.2.2.2.2.1, x3.2.2.2.2.2.2.2.2.2.2.2.1, x3.2.2.2.2.2.2.2.2.2.2.2.2.1, x3.2.2.2.2.2.2.2.2.2.2.2.2.2.1, x3.2.2.2.2.2.2.2.2.2.2.2.2.2.2.1, x3.2.2.2.2.2.2.2.2.2.2.2.2.2.2.2.1, x3.2.2.2.2.2.2.2.2.2.2.2.2.2.2.2.2.1, x3.2.2.2.2.2.2.2.2.2.2.2.2.2.2.2.2.2.1, x3.2.2.2.2.2.2.2.2.2.2.2.2.2.2.2.2.2.2.1, w64 (x3.2.2.2.2.2.2.2.2.2.2.2.2.2.2.2.2.2.2.2 + 1)))
    else
    (
      bif (x3.2.2.2.2.2.2.2.2.2.2.2.2.1 == []) then
        bif (x3.2.2.2.2.2.2.2.2.2.2.2.2.2.2.1 == 0) then
          bif (x3.2.2.2.2.2.2.2.2.2.2.2.2.2.2.2.1 == 0) then
            bif (x3.2.2.1 == 1) then
              bif (x3.2.2.2.2.2.2.2.2.2.2.2.2.2.1 == []) then
                some (((x3.2.2.2.2.2.2.2.2.2.2.2.2.2.2.2.2.1.length : Int) == 0))
              else
                some (false)
            else
            bif (x3.2.2.1 == 2) then
              bif ((x3.2.2.2.2.1 == 0) && ((x3.2.2.2.2.2.1 == 0) && ((x3.2.2.2.2.2.2.1 == 0) && ((x3.2.2.2.2.2.2.2.1 == 0) && ((x3.2.2.2.2.2.2.2.2.1 == 0) && ((x3.2.2.2.2.2.2.2.2.2.1 == []) && ((x3.2.2.2.2.2.2.2.2.2.2.1 == []) && (x3.2.2.2.2.2.2.2.2.2.2.2.1 == 0)))))))) then
                some (((x3.2.2.2.2.2.2.2.2.2.2.2.2.2.2.2.2.1.length : Int) == 0))
              else
                some (false)
            else
              bif (x3.2.2.1 == 3) then
                bif ((x3.2.2.2.2.1 == 0) && ((x3.2.2.2.2.2.1 == 0) && ((x3.2.2.2.2.2.2.1 == 0) && ((x3.2.2.2.2.2.2.2.1 == 0) && ((x3.2.2.2.2.2.2.2.2.1 == 0) && ((x3.2.2.2.2.2.2.2.2.2.1 == []) && ((x3.2.2.2.2.2.2.2.2.2.2.1 == []) && (x3.2.2.2.2.2.2.2.2.2.2.2.1 == 0)))))))) then
                  some ((x3.2.2.2.2.2.2.2.2.2.2.2.2.2.1 == []))
                else
                  some (false)
              else
                some (false)
          else
          bif (x3.2.2.1 == 1) then
            bif (x3.2.2.2.2.2.2.2.2.2.2.2.2.2.1 == []) then
              some (false)
            else
              some (false)
          else
          bif (x3.2.2.1 == 2) then
            bif ((x3.2.2.2.2.1 == 0) && ((x3.2.2.2.2.2.1 == 0) && ((x3.2.2.2.2.2.2.1 == 0) && ((x3.2.2.2.2.2.2.2.1 == 0) && ((x3.2.2.2.2.2.2.2.2.1 == 0) && ((x3.2.2.2.2.2.2.2.2.2.1 == []) && ((x3.2.2.2.2.2.2.2.2.2.2.1 == []) && (x3.2.2.2.2.2.2.2.2.2.2.2.1 == 0)))))))) then
              some (false)
            else
              some (false)
          else
            bif (x3.2.2.1 == 3) then
              bif ((x3.2.2.2.2.1 == 0) && ((x3.2.2.2.2.2.1 == 0) && ((x3.2.2.2.2.2.2.1 == 0) && ((x3.2.2.2.2.2.2.2.1 == 0) && ((x3.2.2.2.2.2.2.2.2.1 == 0) && ((x3.2.2.2.2.2.2.2.2.2.1 == []) && ((x3.2.2.2.2.2.2.2.2.2.2.1 == []) && (x3.2.2.2.2.2.2.2.2.2.2.2.1 == 0)))))))) then
                some ((x3.2.2.2.2.2.2.2.2.2.2.2.2.2.1 == []))
              else
                some (false)
            else
              some (false)
        else
        bif (x3.2.2.1 == 1) then
          bif (x3.2.2.2.2.2.2.2.2.2.2.2.2.2.1 == []) then
            some (false)
          else
            some (false)
        else
        bif (x3.2.2.1 == 2) then
          bif ((x3.2.2.2.2.1 == 0) && ((x3.2.2.2.2.2.1 == 0) && ((x3.2.2.2.2.2.2.1 == 0) && ((x3.2.2.2.2.2.2.2.1 == 0) && ((x3.2.2.2.2.2.2.2.2.1 == 0) && ((x3.2.2.2.2.2.2.2.2.2.1 == []) && ((x3.2.2.2.2.2.2.2.2.2.2.1 == []) && (x3.2.2.2.2.2.2.2.2.2.2.2.1 == 0)))))))) then
            some (false)
          else
            some (false)
        else
          bif (x3.2.2.1 == 3) then
            bif ((x3.2.2.2.2.1 == 0) && ((x3.2.2.2.2.2.1 == 0) && ((x3.2.2.2.2.2.2.1 == 0) && ((x3.2.2.2.2.2.2.2.1 == 0) && ((x3.2.2.2.2.2.2.2.2.1 == 0) && ((x3.2.2.2.2.2.2.2.2.2.1 == []) && ((x3.2.2.2.2.2.2.2.2.2.2.1 == []) && (x3.2.2.2.2.2.2.2.2.2.2.2.1 == 0)))))))) then
              some ((x3.2.2.2.2.2.2.2.2.2.2.2.2.2.1 == []))
            else
              some (false)
          else
            some (false)
      else
      bif (x3.2.2.2.2.2.2.2.2.2.2.2.2.2.2.1 == 0) then
        bif (x3.2.2.2.2.2.2.2.2.2.2.2.2.2.2.2.1 == 0) then
          bif (x3.2.2.1 == 1) then
            some (false)
          else
          bif (x3.2.2.1 == 2) then
            bif ((x3.2.2.2.2.1 == 0) && ((x3.2.2.2.2.2.1 == 0) && ((x3.2.2.2.2.2.2.1 == 0) && ((x3.2.2.2.2.2.2.2.1 == 0) && ((x3.2.2.2.2.2.2.2.2.1 == 0) && ((x3.2.2.2.2.2.2.2.2.2.1 == []) && ((x3.2.2.2.2.2.2.2.2.2.2.1 == []) && (x3.2.2.2.2.2.2.2.2.2.2.2.1 == 0)))))))) then
              some (((x3.2.2.2.2.2.2.2.2.2.2.2.2.2.2.2.2.1.length : Int) == 0))
            else
              some (false)
          else
            bif (x3.2.2.1 == 3) then
              bif ((x3.2.2.2.2.1 == 0) && ((x3.2.2.2.2.2.1 == 0) && ((x3.2.2.2.2.2.2.1 == 0) && ((x3.2.2.2.2.2.2.2.1 == 0) && ((x3.2.2.2.2.2.2.2.2.1 == 0) && ((x3.2.2.2.2.2.2.2.2.2.1 == []) && ((x3.2.2.2.2.2.2.2.2.2.2.1 == []) && (x3.2.2.2.2.2.2.2.2.2.2.2.1 == 0)))))))) then
                some (false)
              else
                some (false)
            else
              some (false)
        else
        bif (x3.2.2.1 == 1) then
          some (false)
        else
        bif (x3.2.2.1 == 2) then
          bif ((x3.2.2.2.2.1 == 0) && ((x3.2.2.2.2.2.1 == 0) && ((x3.2.2.2.2.2.2.1 == 0) && ((x3.2.2.2.2.2.2.2.1 == 0) && ((x3.2.2.2.2.2.2.2.2.1 == 0) && ((x3.2.2.2.2.2.2.2.2.2.1 == []) && ((x3.2.2.2.2.2.2.2.2.2.2.1 == []) && (x3.2.2.2.2.2.2.2.2.2.2.2.1 == 0)))))))) then
            some (false)
          else
            some (false)
        else
          bif (x3.2.2.1 == 3) then
            bif ((x3.2.2.2.2.1 == 0) && ((x3.2.2.2.2.2.1 == 0) && ((x3.2.2.2.2.2.2.1 == 0) && ((x3.2.2.2.2.2.2.2.1 == 0) && ((x3.2.2.2.2.2.2.2.2.1 == 0) && ((x3.2.2.2.2.2.2.2.2.2.1 == []) && ((x3.2.2.2.2.2.2.2.2.2.2.1 == []) && (x3.2.2.2.2.2.2.2.2.2.2.2.1 == 0)))))))) then
              some (false)
            else
              some (false)
          else
            some (false)
      else
      bif (x3.2.2.1 == 1) then
        some (false)
      else
      bif (x3.2.2.1 == 2) then
        bif ((x3.2.2.2.2.1 == 0) && ((x3.2.2.2.2.2.1 == 0) && ((x3.2.2.2.2.2.2.1 == 0) && ((x3.2.2.2.2.2.2.2.1 == 0) && ((x3.2.2.2.2.2.2.2.2.1 == 0) && ((x3.2.2.2.2.2.2.2.2.2.1 == []) && ((x3.2.2.2.2.2.2.2.2.2.2.1 == []) && (x3.2.2.2.2.2.2.2.2.2.2.2.1 == 0)))))))) then
          some (false)
        else
          some (false)
      else
        bif (x3.2.2.1 == 3) then
          bif ((x3.2.2.2.2.1 == 0) && ((x3.2.2.2.2.2.1 == 0) && ((x3.2.2.2.2.2.2.1 == 0) && ((x3.2.2.2.2.2.2.2.1 == 0) && ((x3.2.2.2.2.2.2.2.2.1 == 0) && ((x3.2.2.2.2.2.2.2.2.2.1 == []) && ((x3.2.2.2.2.2.2.2.2.2.2.1 == []) && (x3.2.2.2.2.2.2.2.2.2.2.2.1 == 0)))))))) then
            some (false)
          else
            some (false)
        else
          some (false)
    ).bind fun r => some (.inr r)
  ) (a.time, a.by_, a.kind, a.seen, a.edit.kind, a.edit.pos, a.edit.cell.id, a.edit.cell.version, a.edit.cell.kind, a.edit.cell.name, a.edit.cell.code, a.edit.cell.n, a.src, a.dst, a.cell, a.version, a.reads, a.seen, (a.seen.length : Int), 0)
noncomputable def iIsValidOpFS : Fsp := { fid := 17, ps := [⟨true, .base .op⟩], rs := [⟨false, .base .bool⟩], ex := true, fn := fun x => iIsValidOp x }
noncomputable def iIsValidLog (a : List GOp) : Option (Bool) :=
  loopD (fun (x1 : (List GOp) × (List GOp) × Int × Int) =>
    bif (decide (x1.2.2.2 < x1.2.2.1)) then
      (idx x1.2.1 x1.2.2.2).bind fun e2 =>
      (iIsValidOp e2).bind fun r3 =>
      bif (!r3) then
        some (.inr (false))
      else
        bif (decide (x1.2.2.2 > 0)) then
          (idx x1.1 (w64 (x1.2.2.2 - 1))).bind fun e4 =>
          (iOpBefore e4 e2).bind fun r5 =>
          bif (!r5) then
            some (.inr (false))
          else
            some (.inl (x1.1, x1.2.1, x1.2.2.1, w64 (x1.2.2.2 + 1)))
        else
          some (.inl (x1.1, x1.2.1, x1.2.2.1, w64 (x1.2.2.2 + 1)))
    else
      some (.inr ((decide ((x1.1.length : Int) ≤ 60))))
  ) (a, a, (a.length : Int), 0)
noncomputable def iIsValidLogFS : Fsp := { fid := 10, ps := [⟨false, .list (.base .op)⟩], rs := [⟨false, .base .bool⟩], ex := true, fn := fun x => iIsValidLog x }
noncomputable def sL41Seen (a : List Int) : Option (Bool) :=
  loopD (fun (x1 : (List Int) × Int) =>
    bif (decide (x1.2 < (x1.1.length : Int))) then
      (idx x1.1 x1.2).bind fun e2 =>
      (sL1In e2 0 60).bind fun r3 =>
      bif (!r3) then
        some (.inr (false))
      else
        some (.inl (x1.1, w64 (x1.2 + 1)))
    else
      some (.inr (((x1.1.length : Int) == 3)))
  ) (a, 0)
noncomputable def sL41SeenFS : Fsp := { fid := 97, ps := [⟨false, .list (.base .int)⟩], rs := [⟨false, .base .bool⟩], ex := true, fn := fun x => sL41Seen x }
noncomputable def sIsValidOp (a : GOp) : Option (Bool) :=
  (sL1In a.time 1 300).bind fun r1 =>
  bif (!r1) then
    some (false)
  else
  (sL1In a.by_ 0 2).bind fun r2 =>
  bif (!r2) then
    some (false)
  else
  (sL41Seen a.seen).bind fun r3 =>
  bif (!r3) then
    some (false)
  else
  (sL1In a.kind 1 3).bind fun r4 =>
  bif (!r4) then
    some (false)
  else
  bif (a.src == []) then
    bif (a.cell == 0) then
      bif (a.version == 0) then
        bif (a.kind == 1) then
          bif (a.dst == []) then
            some (((a.reads.length : Int) == 0))
          else
            some (false)
        else
          bif (a.kind == 2) then
            bif ((a.edit.kind == 0) && ((a.edit.pos == 0) && ((a.edit.cell.id == 0) && ((a.edit.cell.version == 0) && ((a.edit.cell.kind == 0) && ((a.edit.cell.name == []) && ((a.edit.cell.code == []) && (a.edit.cell.n == 0)))))))) then
              some (((a.reads.length : Int) == 0))
            else
              some (false)
          else
            bif ((a.edit.kind == 0) && ((a.edit.pos == 0) && ((a.edit.cell.id == 0) && ((a.edit.cell.version == 0) && ((a.edit.cell.kind == 0) && ((a.edit.cell.name == []) && ((a.edit.cell.code == []) && (a.edit.cell.n == 0)))))))) then
              some ((a.dst == []))
            else
              some (false)
      else
      bif (a.kind == 1) then
        bif (a.dst == []) then
          some (false)
        else
          some (false)
      else
        bif (a.kind == 2) then
          bif ((a.edit.kind == 0) && ((a.edit.pos == 0) && ((a.edit.cell.id == 0) && ((a.edit.cell.version == 0) && ((a.edit.cell.kind == 0) && ((a.edit.cell.name == []) && ((a.edit.cell.code == []) && (a.edit.cell.n == 0)))))))) then
            some (false)
          else
            some (false)
        else
          bif ((a.edit.kind == 0) && ((a.edit.pos == 0) && ((a.edit.cell.id == 0) && ((a.edit.cell.version == 0) && ((a.edit.cell.kind == 0) && ((a.edit.cell.name == []) && ((a.edit.cell.code == []) && (a.edit.cell.n == 0)))))))) then
            some ((a.dst == []))
          else
            some (false)
    else
    bif (a.kind == 1) then
      bif (a.dst == []) then
        some (false)
      else
        some (false)
    else
      bif (a.kind == 2) then
        bif ((a.edit.kind == 0) && ((a.edit.pos == 0) && ((a.edit.cell.id == 0) && ((a.edit.cell.version == 0) && ((a.edit.cell.kind == 0) && ((a.edit.cell.name == []) && ((a.edit.cell.code == []) && (a.edit.cell.n == 0)))))))) then
          some (false)
        else
          some (false)
      else
        bif ((a.edit.kind == 0) && ((a.edit.pos == 0) && ((a.edit.cell.id == 0) && ((a.edit.cell.version == 0) && ((a.edit.cell.kind == 0) && ((a.edit.cell.name == []) && ((a.edit.cell.code == []) && (a.edit.cell.n == 0)))))))) then
          some ((a.dst == []))
        else
          some (false)
  else
  bif (a.cell == 0) then
    bif (a.version == 0) then
      bif (a.kind == 1) then
        some (false)
      else
        bif (a.kind == 2) then
          bif ((a.edit.kind == 0) && ((a.edit.pos == 0) && ((a.edit.cell.id == 0) && ((a.edit.cell.version == 0) && ((a.edit.cell.kind == 0) && ((a.edit.cell.name == []) && ((a.edit.cell.code == []) && (a.edit.cell.n == 0)))))))) then
            some (((a.reads.length : Int) == 0))
          else
            some (false)
        else
          bif ((a.edit.kind == 0) && ((a.edit.pos == 0) && ((a.edit.cell.id == 0) && ((a.edit.cell.version == 0) && ((a.edit.cell.kind == 0) && ((a.edit.cell.name == []) && ((a.edit.cell.code == []) && (a.edit.cell.n == 0)))))))) then
            some (false)
          else
            some (false)
    else
    bif (a.kind == 1) then
      some (false)
    else
      bif (a.kind == 2) then
        bif ((a.edit.kind == 0) && ((a.edit.pos == 0) && ((a.edit.cell.id == 0) && ((a.edit.cell.version == 0) && ((a.edit.cell.kind == 0) && ((a.edit.cell.name == []) && ((a.edit.cell.code == []) && (a.edit.cell.n == 0)))))))) then
          some (false)
        else
          some (false)
      else
        bif ((a.edit.kind == 0) && ((a.edit.pos == 0) && ((a.edit.cell.id == 0) && ((a.edit.cell.version == 0) && ((a.edit.cell.kind == 0) && ((a.edit.cell.name == []) && ((a.edit.cell.code == []) && (a.edit.cell.n == 0)))))))) then
          some (false)
        else
          some (false)
  else
  bif (a.kind == 1) then
    some (false)
  else
    bif (a.kind == 2) then
      bif ((a.edit.kind == 0) && ((a.edit.pos == 0) && ((a.edit.cell.id == 0) && ((a.edit.cell.version == 0) && ((a.edit.cell.kind == 0) && ((a.edit.cell.name == []) && ((a.edit.cell.code == []) && (a.edit.cell.n == 0)))))))) then
        some (false)
      else
        some (false)
    else
      bif ((a.edit.kind == 0) && ((a.edit.pos == 0) && ((a.edit.cell.id == 0) && ((a.edit.cell.version == 0) && ((a.edit.cell.kind == 0) && ((a.edit.cell.name == []) && ((a.edit.cell.code == []) && (a.edit.cell.n == 0)))))))) then
        some (false)
      else
        some (false)
noncomputable def sIsValidOpFS : Fsp := { fid := 51, ps := [⟨true, .base .op⟩], rs := [⟨false, .base .bool⟩], ex := true, fn := fun x => sIsValidOp x }
noncomputable def sIsValidLog (a : List GOp) : Option (Bool) :=
  loopD (fun (x1 : (List GOp) × Int) =>
    bif (decide (x1.2 < (x1.1.length : Int))) then
      (idx x1.1 x1.2).bind fun e2 =>
      (sIsValidOp e2).bind fun r3 =>
      bif (!r3) then
        some (.inr (false))
      else
      bif (decide (x1.2 > 0)) then
        (idx x1.1 (w64 (x1.2 - 1))).bind fun e4 =>
        (idx x1.1 x1.2).bind fun e5 =>
        (sOpBefore e4 e5).bind fun r6 =>
        bif (!r6) then
          some (.inr (false))
        else
          some (.inl (x1.1, w64 (x1.2 + 1)))
      else
        some (.inl (x1.1, w64 (x1.2 + 1)))
    else
      some (.inr ((decide ((x1.1.length : Int) ≤ 60))))
  ) (a, 0)
noncomputable def sIsValidLogFS : Fsp := { fid := 11, ps := [⟨false, .list (.base .op)⟩], rs := [⟨false, .base .bool⟩], ex := true, fn := fun x => sIsValidLog x }
noncomputable def sDrawOpBefore (a : List Int) : Option (GOp × GOp) :=
  (sL1New a).bind fun r1 =>
  (sL41Bent r1).bind fun r2 =>
  (sL41Bent r2.1).bind fun r3 =>
  some (r2.2, r3.2)
noncomputable def sDrawOpBeforeFS : Fsp := { fid := 12, ps := [⟨false, .list (.base .u8)⟩], rs := [⟨true, .base .op⟩, ⟨true, .base .op⟩], ex := false, sh := true, fn := fun x => sDrawOpBefore x }
noncomputable def iSameInt (a : List Int) (b : List Int) : Option (Bool) :=
  bif ((a.length : Int) != (b.length : Int)) then
    some (false)
  else
  loopD (fun (x1 : (List Int) × (List Int) × Int × Int) =>
    bif (decide (x1.2.2.2 < x1.2.2.1)) then
      (idx x1.1 x1.2.2.2).bind fun e2 =>
      (idx x1.2.1 x1.2.2.2).bind fun e3 =>
      bif (e2 != e3) then
        some (.inr (false))
      else
        some (.inl (x1.1, x1.2.1, x1.2.2.1, w64 (x1.2.2.2 + 1)))
    else
      some (.inr (true))
  ) (a, b, (a.length : Int), 0)
noncomputable def iSameIntFS : Fsp := { fid := 52, ps := [⟨false, .list (.base .int)⟩, ⟨false, .list (.base .int)⟩], rs := [⟨false, .base .bool⟩], ex := true, fn := fun x => iSameInt x.1 x.2 }
noncomputable def iSameRead (a : GRead) (b : GRead) : Option (Bool) :=
  bif (a.kind == b.kind) then
    bif (a.n == b.n) then
      bif (a.text == b.text) then
        some ((a.time == b.time))
      else
        some (false)
    else
      some (false)
  else
    some (false)
noncomputable def iSameReadFS : Fsp := { fid := 98, ps := [⟨true, .base .read⟩, ⟨true, .base .read⟩], rs := [⟨false, .base .bool⟩], ex := true, fn := fun x => iSameRead x.1 x.2 }
noncomputable def iSameString (a : List Str) (b : List Str) : Option (Bool) :=
  bif ((a.length : Int) != (b.length : Int)) then
    some (false)
  else
  loopD (fun (x1 : (List Str) × (List Str) × Int × Int) =>
    bif (decide (x1.2.2.2 < x1.2.2.1)) then
      (idx x1.1 x1.2.2.2).bind fun e2 =>
      (idx x1.2.1 x1.2.2.2).bind fun e3 =>
      bif (!(e2 == e3)) then
        some (.inr (false))
      else
        some (.inl (x1.1, x1.2.1, x1.2.2.1, w64 (x1.2.2.2 + 1)))
    else
      some (.inr (true))
  ) (a, b, (a.length : Int), 0)
noncomputable def iSameStringFS : Fsp := { fid := 184, ps := [⟨false, .list (.base .str)⟩, ⟨false, .list (.base .str)⟩], rs := [⟨false, .base .bool⟩], ex := true, fn := fun x => iSameString x.1 x.2 }
noncomputable def iSameOrigin (a : List GOrigin) (b : List GOrigin) : Option (Bool) :=
  bif ((a.length : Int) != (b.length : Int)) then
    some (false)
  else
  loopD (fun (x1 : (List GOrigin) × (List GOrigin) × Int × Int) =>
    bif (decide (x1.2.2.2 < x1.2.2.1)) then
      (idx x1.1 x1.2.2.2).bind fun e2 =>
      (idx x1.2.1 x1.2.2.2).bind fun e3 =>
      bif (!((e2.cell == e3.cell) && (e2.row == e3.row))) then
        some (.inr (false))
      else
        some (.inl (x1.1, x1.2.1, x1.2.2.1, w64 (x1.2.2.2 + 1)))
    else
      some (.inr (true))
  ) (a, b, (a.length : Int), 0)
noncomputable def iSameOriginFS : Fsp := { fid := 185, ps := [⟨false, .list (.base .origin)⟩, ⟨false, .list (.base .origin)⟩], rs := [⟨false, .base .bool⟩], ex := true, fn := fun x => iSameOrigin x.1 x.2 }
noncomputable def iEqualB (riEqual : GVal → GVal → Bool → Option (Bool)) (a : GVal) (b : GVal) (c : Bool) : Option (Bool) :=
  bif (a.kind != b.kind) then
    some (false)
  else
  bif (a.n != b.n) then
    some (false)
  else
  bif (a.step != b.step) then
    some (false)
  else
  bif (!(a.text == b.text)) then
    some (false)
  else
  (iSameString a.columns b.columns).bind fun r1 =>
  bif (!r1) then
    some (false)
  else
  bif ((a.list.length : Int) != (b.list.length : Int)) then
    some (false)
  else
  bif ((a.rows.length : Int) != (b.rows.length : Int)) then
    some (false)
  else
  loopD (fun (x2 : Bool × Int × Int × Int × Str × (List GVal) × (List Str) × (List GRow) × Int × Int × Int × Str × (List GVal) × (List Str) × (List GRow) × Int × Int) =>
    bif (decide (x2.2.2.2.2.2.2.2.2.2.2.2.2.2.2.2.2 < x2.2.2.2.2.2.2.2.2.2.2.2.2.2.2.2.1)) then
      (idx x2.2.2.2.2.2.1 x2.2.2.2.2.2.2.2.2.2.2.2.2.2.2.2.2).bind fun e3 =>
      (idx x2.2.2.2.2.2.2.2.2.2.2.2.2.1 x2.2.2.2.2.2.2.2.2.2.2.2.2.2.2.2.2).bind fun e4 =>
      (riEqual (reVal e3) (reVal e4) x2.1).bind fun r5 =>
      bif (!r5) then
        some (.inr (false))
      else
        some (.inl (x2.1, x2.2.1, x2.2.2.1, x2.2.2.2.1, x2.2.2.2.2.1, x2.2.2.2.2.2.1, x2.2.2.2.2.2.2.1, x2.2.2.2.2.2.2.2.1, x2.2.2.2.2.2.2.2.2.1, x2.2.2.2.2.2.2.2.2.2.1, x2.2.2.2.2.2.2.2.2.2.2.1, x2.2.2.2.2.2.2.2.2.2.2.2.1, x2.2.2.2.2.2.2.2.2.2.2.2.2.1, x2.2.2.2.2.2.2.2.2.2.2.2.2.2.1, x2.2.2.2.2.2.2.2.2.2.2.2.2.2.2.1, x2.2.2.2.2.2.2.2.2.2.2.2.2.2.2.2.1, w64 (x2.2.2.2.2.2.2.2.2.2.2.2.2.2.2.2.2 + 1)))
    else
    (
      loopD (fun (x6 : Bool × Int × Int × Int × Str × (List GVal) × (List Str) × (List GRow) × Int × Int × Int × Str × (List GVal) × (List Str) × (List GRow) × Int × Int) =>
        bif (decide (x6.2.2.2.2.2.2.2.2.2.2.2.2.2.2.2.2 < x6.2.2.2.2.2.2.2.2.2.2.2.2.2.2.2.1)) then
          (idx x6.2.2.2.2.2.2.2.1 x6.2.2.2.2.2.2.2.2.2.2.2.2.2.2.2.2).bind fun e7 =>
          (idx x6.2.2.2.2.2.2.2.2.2.2.2.2.2.2.1 x6.2.2.2.2.2.2.2.2.2.2.2.2.2.2.2.2).bind fun e8 =>
          (iSameInt e7.cells e8.cells).bind fun r9 =>
          bif (!r9) then
            some (.inr (false))
          else
          bif x6.1 then
            (idx x6.2.2.2.2.2.2.2.1 x6.2.2.2.2.2.2.2.2.2.2.2.2.2.2.2.2).bind fun e10 =>
            (idx x6.2.2.2.2.2.2.2.2.2.2.2.2.2.2.1 x6.2.2.2.2.2.2.2.2.2.2.2.2.2.2.2.2).bind fun e11 =>
            (iSameOrigin e10.orig e11.orig).bind fun r12 =>
            bif (!r12) then
              some (.inr (false))
            else
              some (.inl (x6.1, x6.2.1, x6.2.2.1, x6.2.2.2.1, x6.2.2.2.2.1, x6.2.2.2.2.2.1, x6.2.2.2.2.2.2.1, x6.2.2.2.2.2.2.2.1, x6.2.2.2.2.2.2.2.2.1, x6.2.2.2.2.2.2.2.2.2.1, x6.2.2.2.2.2.2.2.2.2.2.1, x6.2.2.2.2.2.2.2.2.2.2.2.1, x6.2.2.2.2.2.2.2.2.2.2.2.2.1, x6.2.2.2.2.2.2.2.2.2.2.2.2.2.1, x6.2.2.2.2.2.2.2.2.2.2.2.2.2.2.1, x6.2.2.2.2.2.2.2.2.2.2.2.2.2.2.2.1, w64 (x6.2.2.2.2.2.2.2.2.2.2.2.2.2.2.2.2 + 1)))
          else
            some (.inl (x6.1, x6.2.1, x6.2.2.1, x6.2.2.2.1, x6.2.2.2.2.1, x6.2.2.2.2.2.1, x6.2.2.2.2.2.2.1, x6.2.2.2.2.2.2.2.1, x6.2.2.2.2.2.2.2.2.1, x6.2.2.2.2.2.2.2.2.2.1, x6.2.2.2.2.2.2.2.2.2.2.1, x6.2.2.2.2.2.2.2.2.2.2.2.1, x6.2.2.2.2.2.2.2.2.2.2.2.2.1, x6.2.2.2.2.2.2.2.2.2.2.2.2.2.1, x6.2.2.2.2.2.2.2.2.2.2.2.2.2.2.1, x6.2.2.2.2.2.2.2.2.2.2.2.2.2.2.2.1, w64 (x6.2.2.2.2.2.2.2.2.2.2.2.2.2.2.2.2 + 1)))
        else
          some (.inr (true))
      ) (x2.1, x2.2.1, x2.2.2.1, x2.2.2.2.1, x2.2.2.2.2.1, x2.2.2.2.2.2.1, x2.2.2.2.2.2.2.1, x2.2.2.2.2.2.2.2.1, x2.2.2.2.2.2.2.2.2.1, x2.2.2.2.2.2.2.2.2.2.1, x2.2.2.2.2.2.2.2.2.2.2.1, x2.2.2.2.2.2.2.2.2.2.2.2.1, x2.2.2.2.2.2.2.2.2.2.2.2.2.1, x2.2.2.2.2.2.2.2.2.2.2.2.2.2.1, x2.2.2.2.2.2.2.2.2.2.2.2.2.2.2.1, (x2.2.2.2.2.2.2.2.1.length : Int), 0)
    ).bind fun r => some (.inr r)
  ) (c, a.kind, a.n, a.step, a.text, a.list, a.columns, a.rows, b.kind, b.n, b.step, b.text, b.list, b.columns, b.rows, (a.list.length : Int), 0)
noncomputable def iEqualG : Nat → (GVal → GVal → Bool → Option (Bool))
  | 0 => fun _ _ _ => none
  | n + 1 => iEqualB (iEqualG n)
noncomputable def iEqual (a : GVal) (b : GVal) (c : Bool) : Option (Bool) := (iEqualG (siz a + siz b + 1)) a b c
noncomputable def iEqualFS : Fsp := { fid := 150, ps := [⟨true, .base .val⟩, ⟨true, .base .val⟩, ⟨false, .base .bool⟩], rs := [⟨false, .base .bool⟩], ex := true, fn := fun x => iEqual x.1 x.2.1 x.2.2 }
noncomputable def iEqualFSN (n : Nat) : Fsp := { fid := 150, ps := [⟨true, .base .val⟩, ⟨true, .base .val⟩, ⟨false, .base .bool⟩], rs := [⟨false, .base .bool⟩], ex := true, fn := fun x => (iEqualG n) x.1 x.2.1 x.2.2 }
noncomputable def iEqualValue (a : GVal) (b : GVal) : Option (Bool) :=
  (iEqual (reVal a) (reVal b) true).bind fun r1 =>
  some (r1)
noncomputable def iEqualValueFS : Fsp := { fid := 99, ps := [⟨true, .base .val⟩, ⟨true, .base .val⟩], rs := [⟨false, .base .bool⟩], ex := true, fn := fun x => iEqualValue x.1 x.2 }
noncomputable def iEqualReads (a : List GRead) (b : List GRead) : Option (Bool) :=
  bif ((a.length : Int) != (b.length : Int)) then
    some (false)
  else
  loopD (fun (x1 : (List GRead) × (List GRead) × Int × Int) =>
    bif (decide (x1.2.2.2 < x1.2.2.1)) then
      (idx x1.1 x1.2.2.2).bind fun e2 =>
      (idx x1.2.1 x1.2.2.2).bind fun e3 =>
      (iSameRead (reRead e2) (reRead e3)).bind fun r4 =>
      bif (!r4) then
        some (.inr (false))
      else
        (idx x1.1 x1.2.2.2).bind fun e5 =>
        (idx x1.2.1 x1.2.2.2).bind fun e6 =>
        (iEqualValue (reVal e5.result) (reVal e6.result)).bind fun r7 =>
        bif (!r7) then
          some (.inr (false))
        else
          some (.inl (x1.1, x1.2.1, x1.2.2.1, w64 (x1.2.2.2 + 1)))
    else
      some (.inr (true))
  ) (a, b, (a.length : Int), 0)
noncomputable def iEqualReadsFS : Fsp := { fid := 53, ps := [⟨false, .list (.base .read)⟩, ⟨false, .list (.base .read)⟩], rs := [⟨false, .base .bool⟩], ex := true, fn := fun x => iEqualReads x.1 x.2 }
noncomputable def iEqualOp (a : GOp) (b : GOp) : Option (Bool) :=
  bif (a.time == b.time) then
    bif (a.by_ == b.by_) then
      bif (a.kind == b.kind) then
        (iSameInt a.seen b.seen).bind fun r1 =>
        bif r1 then
          bif ((a.edit.kind == b.edit.kind) && ((a.edit.pos == b.edit.pos) && ((a.edit.cell.id == b.edit.cell.id) && ((a.edit.cell.version == b.edit.cell.version) && ((a.edit.cell.kind == b.edit.cell.kind) && ((a.edit.cell.name == b.edit.cell.name) && ((a.edit.cell.code == b.edit.cell.code) && (a.edit.cell.n == b.edit.cell.n)))))))) then
            bif (a.src == b.src) then
              bif (a.dst == b.dst) then
                bif (a.cell == b.cell) then
                  bif (a.version == b.version) then
                    (iEqualReads a.reads b.reads).bind fun r2 =>
                    some (r2)
                  else
                    some (false)
                else
                  some (false)
              else
                some (false)
            else
              some (false)
          else
            some (false)
        else
          some (false)
      else
        some (false)
    else
      some (false)
  else
    some (false)
noncomputable def iEqualOpFS : Fsp := { fid := 14, ps := [⟨true, .base .op⟩, ⟨true, .base .op⟩], rs := [⟨false, .base .bool⟩], ex := true, fn := fun x => iEqualOp x.1 x.2 }
noncomputable def iCountBy (a : List GOp) (b : Int) : Option (Int) :=
  loopD (fun (x1 : Int × Int × (List GOp) × Int × Int) =>
    bif (decide (x1.2.2.2.2 < x1.2.2.2.1)) then
      (idx x1.2.2.1 x1.2.2.2.2).bind fun e2 =>
      bif (e2.by_ == x1.1) then
        some (.inl (x1.1, w64 (x1.2.1 + 1), x1.2.2.1, x1.2.2.2.1, w64 (x1.2.2.2.2 + 1)))
      else
        some (.inl (x1.1, x1.2.1, x1.2.2.1, x1.2.2.2.1, w64 (x1.2.2.2.2 + 1)))
    else
      some (.inr (x1.2.1))
  ) (b, 0, a, (a.length : Int), 0)
noncomputable def iCountByFS : Fsp := { fid := 16, ps := [⟨false, .list (.base .op)⟩, ⟨false, .base .int⟩], rs := [⟨false, .base .int⟩], ex := true, fn := fun x => iCountBy x.1 x.2 }
noncomputable def iStampVersion (a : GOp) : Option (Int) :=
  some (w64 ((w64 (a.time * 3)) + a.by_))
noncomputable def iStampVersionFS : Fsp := { fid := 18, ps := [⟨true, .base .op⟩], rs := [⟨false, .base .int⟩], ex := true, fn := fun x => iStampVersion x }
noncomputable def iLastTime (a : List GOp) : Option (Int) :=
  loopD (fun (x1 : Int × (List GOp) × Int × Int) =>
    bif (decide (x1.2.2.2 < x1.2.2.1)) then
      (idx x1.2.1 x1.2.2.2).bind fun e2 =>
      some (.inl ((if e2.time > x1.1 then e2.time else x1.1), x1.2.1, x1.2.2.1, w64 (x1.2.2.2 + 1)))
    else
      some (.inr (x1.1))
  ) (0, a, (a.length : Int), 0)
noncomputable def iLastTimeFS : Fsp := { fid := 19, ps := [⟨false, .list (.base .op)⟩], rs := [⟨false, .base .int⟩], ex := true, fn := fun x => iLastTime x }
noncomputable def FnOps (a : List Int) : Option (Bool) :=
  (big a).bind fun r1 =>
  bif r1 then
    some (true)
  else
  (sDrawIsValidLog a).bind fun r2 =>
  (iIsValidLog r2).bind fun r3 =>
  (sIsValidLog r2).bind fun r4 =>
  bif (!(r3 == r4)) then
    some (false)
  else
  (sDrawOpBefore a).bind fun r5 =>
  (iOpBefore r5.1 r5.2).bind fun r6 =>
  bif r6 then
    (iOpBefore r5.2 r5.1).bind fun r7 =>
    bif r7 then
      some (false)
    else
    (iOpBefore r5.1 r5.1).bind fun r8 =>
    bif r8 then
      some (false)
    else
    (iEqualOp r5.1 r5.1).bind fun r9 =>
    bif (!r9) then
      some (false)
    else
    (iOpBefore r5.1 r5.2).bind fun r10 =>
    (sOpBefore r5.1 r5.2).bind fun r11 =>
    bif (!(r10 == r11)) then
      some (false)
    else
    loopD (fun (x12 : (List GOp) × Bool × Int × Int) =>
      bif (decide (x12.2.2.2 < 3)) then
        (iCountBy x12.1 x12.2.2.2).bind fun r13 =>
        some (.inl (x12.1, x12.2.1, w64 (x12.2.2.1 + r13), w64 (x12.2.2.2 + 1)))
      else
      (
        bif x12.2.1 then
          bif (x12.2.2.1 != (x12.1.length : Int)) then
            some (false)
          else
          loopD (fun (x14 : (List GOp) × Bool × Int) =>
            bif (decide (x14.2.2 < (x14.1.length : Int))) then
              bif x14.2.1 then
                (idx x14.1 x14.2.2).bind fun _ =>
                (x14.1[x14.2.2.toNat]?).bind fun e16 =>
                (iIsValidOp e16).bind fun r17 =>
                bif (!r17) then
                  some (.inr (false))
                else
                bif (decide (x14.2.2 > 0)) then
                  (idx x14.1 (w64 (x14.2.2 - 1))).bind fun _ =>
                  (x14.1[(w64 (x14.2.2 - 1)).toNat]?).bind fun e19 =>
                  (iStampVersion e19).bind fun r20 =>
                  (idx x14.1 x14.2.2).bind fun _ =>
                  (x14.1[x14.2.2.toNat]?).bind fun e22 =>
                  (iStampVersion e22).bind fun r23 =>
                  bif (decide (r20 ≥ r23)) then
                    some (.inr (false))
                  else
                  (idx x14.1 x14.2.2).bind fun _ =>
                  (x14.1[x14.2.2.toNat]?).bind fun e25 =>
                  (iStampVersion e25).bind fun r26 =>
                  bif (decide (r26 > 999)) then
                    some (.inr (false))
                  else
                    (iLastTime x14.1).bind fun r27 =>
                    (idx x14.1 x14.2.2).bind fun _ =>
                    (x14.1[x14.2.2.toNat]?).bind fun e29 =>
                    bif (decide (r27 < e29.time)) then
                      some (.inr (false))
                    else
                      some (.inl (x14.1, x14.2.1, w64 (x14.2.2 + 1)))
                else
                (idx x14.1 x14.2.2).bind fun _ =>
                (x14.1[x14.2.2.toNat]?).bind fun e31 =>
                (iStampVersion e31).bind fun r32 =>
                bif (decide (r32 > 999)) then
                  some (.inr (false))
                else
                  (iLastTime x14.1).bind fun r33 =>
                  (idx x14.1 x14.2.2).bind fun _ =>
                  (x14.1[x14.2.2.toNat]?).bind fun e35 =>
                  bif (decide (r33 < e35.time)) then
                    some (.inr (false))
                  else
                    some (.inl (x14.1, x14.2.1, w64 (x14.2.2 + 1)))
              else
                some (.inr (true))
            else
              some (.inr (true))
          ) (x12.1, x12.2.1, 0)
        else
        loopD (fun (x36 : (List GOp) × Bool × Int) =>
          bif (decide (x36.2.2 < (x36.1.length : Int))) then
            bif x36.2.1 then
              (idx x36.1 x36.2.2).bind fun _ =>
              (x36.1[x36.2.2.toNat]?).bind fun e38 =>
              (iIsValidOp e38).bind fun r39 =>
              bif (!r39) then
                some (.inr (false))
              else
              bif (decide (x36.2.2 > 0)) then
                (idx x36.1 (w64 (x36.2.2 - 1))).bind fun _ =>
                (x36.1[(w64 (x36.2.2 - 1)).toNat]?).bind fun e41 =>
                (iStampVersion e41).bind fun r42 =>
                (idx x36.1 x36.2.2).bind fun _ =>
                (x36.1[x36.2.2.toNat]?).bind fun e44 =>
                (iStampVersion e44).bind fun r45 =>
                bif (decide (r42 ≥ r45)) then
                  some (.inr (false))
                else
                (idx x36.1 x36.2.2).bind fun _ =>
                (x36.1[x36.2.2.toNat]?).bind fun e47 =>
                (iStampVersion e47).bind fun r48 =>
                bif (decide (r48 > 999)) then
                  some (.inr (false))
                else
                  (iLastTime x36.1).bind fun r49 =>
                  (idx x36.1 x36.2.2).bind fun _ =>
                  (x36.1[x36.2.2.toNat]?).bind fun e51 =>
                  bif (decide (r49 < e51.time)) then
                    some (.inr (false))
                  else
                    some (.inl (x36.1, x36.2.1, w64 (x36.2.2 + 1)))
              else
              (idx x36.1 x36.2.2).bind fun _ =>
              (x36.1[x36.2.2.toNat]?).bind fun e53 =>
              (iStampVersion e53).bind fun r54 =>
              bif (decide (r54 > 999)) then
                some (.inr (false))
              else
                (iLastTime x36.1).bind fun r55 =>
                (idx x36.1 x36.2.2).bind fun _ =>
                (x36.1[x36.2.2.toNat]?).bind fun e57 =>
                bif (decide (r55 < e57.time)) then
                  some (.inr (false))
                else
                  some (.inl (x36.1, x36.2.1, w64 (x36.2.2 + 1)))
            else
              some (.inr (true))
          else
            some (.inr (true))
        ) (x12.1, x12.2.1, 0)
      ).bind fun r => some (.inr r)
    ) (r2, r3, 0, 0)
  else
  (iOpBefore r5.1 r5.1).bind fun r58 =>
  bif r58 then
    some (false)
  else
  (iEqualOp r5.1 r5.1).bind fun r59 =>
  bif (!r59) then
    some (false)
  else
  (iOpBefore r5.1 r5.2).bind fun r60 =>
  (sOpBefore r5.1 r5.2).bind fun r61 =>
  bif (!(r60 == r61)) then
    some (false)
  else
  loopD (fun (x62 : (List GOp) × Bool × Int × Int) =>
    bif (decide (x62.2.2.2 < 3)) then
      (iCountBy x62.1 x62.2.2.2).bind fun r63 =>
      some (.inl (x62.1, x62.2.1, w64 (x62.2.2.1 + r63), w64 (x62.2.2.2 + 1)))
    else
    (
      bif x62.2.1 then
        bif (x62.2.2.1 != (x62.1.length : Int)) then
          some (false)
        else
        loopD (fun (x64 : (List GOp) × Bool × Int) =>
          bif (decide (x64.2.2 < (x64.1.length : Int))) then
            bif x64.2.1 then
              (idx x64.1 x64.2.2).bind fun _ =>
              (x64.1[x64.2.2.toNat]?).bind fun e66 =>
              (iIsValidOp e66).bind fun r67 =>
              bif (!r67) then
                some (.inr (false))
              else
              bif (decide (x64.2.2 > 0)) then
                (idx x64.1 (w64 (x64.2.2 - 1))).bind fun _ =>
                (x64.1[(w64 (x64.2.2 - 1)).toNat]?).bind fun e69 =>
                (iStampVersion e69).bind fun r70 =>
                (idx x64.1 x64.2.2).bind fun _ =>
                (x64.1[x64.2.2.toNat]?).bind fun e72 =>
                (iStampVersion e72).bind fun r73 =>
                bif (decide (r70 ≥ r73)) then
                  some (.inr (false))
                else
                (idx x64.1 x64.2.2).bind fun _ =>
                (x64.1[x64.2.2.toNat]?).bind fun e75 =>
                (iStampVersion e75).bind fun r76 =>
                bif (decide (r76 > 999)) then
                  some (.inr (false))
                else
                  (iLastTime x64.1).bind fun r77 =>
                  (idx x64.1 x64.2.2).bind fun _ =>
                  (x64.1[x64.2.2.toNat]?).bind fun e79 =>
                  bif (decide (r77 < e79.time)) then
                    some (.inr (false))
                  else
                    some (.inl (x64.1, x64.2.1, w64 (x64.2.2 + 1)))
              else
              (idx x64.1 x64.2.2).bind fun _ =>
              (x64.1[x64.2.2.toNat]?).bind fun e81 =>
              (iStampVersion e81).bind fun r82 =>
              bif (decide (r82 > 999)) then
                some (.inr (false))
              else
                (iLastTime x64.1).bind fun r83 =>
                (idx x64.1 x64.2.2).bind fun _ =>
                (x64.1[x64.2.2.toNat]?).bind fun e85 =>
                bif (decide (r83 < e85.time)) then
                  some (.inr (false))
                else
                  some (.inl (x64.1, x64.2.1, w64 (x64.2.2 + 1)))
            else
              some (.inr (true))
          else
            some (.inr (true))
        ) (x62.1, x62.2.1, 0)
      else
      loopD (fun (x86 : (List GOp) × Bool × Int) =>
        bif (decide (x86.2.2 < (x86.1.length : Int))) then
          bif x86.2.1 then
            (idx x86.1 x86.2.2).bind fun _ =>
            (x86.1[x86.2.2.toNat]?).bind fun e88 =>
            (iIsValidOp e88).bind fun r89 =>
            bif (!r89) then
              some (.inr (false))
            else
            bif (decide (x86.2.2 > 0)) then
              (idx x86.1 (w64 (x86.2.2 - 1))).bind fun _ =>
              (x86.1[(w64 (x86.2.2 - 1)).toNat]?).bind fun e91 =>
              (iStampVersion e91).bind fun r92 =>
              (idx x86.1 x86.2.2).bind fun _ =>
              (x86.1[x86.2.2.toNat]?).bind fun e94 =>
              (iStampVersion e94).bind fun r95 =>
              bif (decide (r92 ≥ r95)) then
                some (.inr (false))
              else
              (idx x86.1 x86.2.2).bind fun _ =>
              (x86.1[x86.2.2.toNat]?).bind fun e97 =>
              (iStampVersion e97).bind fun r98 =>
              bif (decide (r98 > 999)) then
                some (.inr (false))
              else
                (iLastTime x86.1).bind fun r99 =>
                (idx x86.1 x86.2.2).bind fun _ =>
                (x86.1[x86.2.2.toNat]?).bind fun e101 =>
                bif (decide (r99 < e101.time)) then
                  some (.inr (false))
                else
                  some (.inl (x86.1, x86.2.1, w64 (x86.2.2 + 1)))
            else
            (idx x86.1 x86.2.2).bind fun _ =>
            (x86.1[x86.2.2.toNat]?).bind fun e103 =>
            (iStampVersion e103).bind fun r104 =>
            bif (decide (r104 > 999)) then
              some (.inr (false))
            else
              (iLastTime x86.1).bind fun r105 =>
              (idx x86.1 x86.2.2).bind fun _ =>
              (x86.1[x86.2.2.toNat]?).bind fun e107 =>
              bif (decide (r105 < e107.time)) then
                some (.inr (false))
              else
                some (.inl (x86.1, x86.2.1, w64 (x86.2.2 + 1)))
          else
            some (.inr (true))
        else
          some (.inr (true))
      ) (x62.1, x62.2.1, 0)
    ).bind fun r => some (.inr r)
  ) (r2, r3, 0, 0)
noncomputable def FnOpsFS : Fsp := { fid := 3, ps := [⟨false, .list (.base .u8)⟩], rs := [⟨false, .base .bool⟩], ex := true, fn := fun x => FnOps x }
noncomputable def sL17Copy (a : GNotebook) : Option (GNotebook) :=
  (gd (0 + a.cells.length)).bind fun _ =>
  some (GNotebook.mk ([] ++ a.cells))
noncomputable def sL17CopyFS : Fsp := { fid := 58, ps := [⟨true, .base .notebook⟩], rs := [⟨true, .base .notebook⟩], ex := true, fn := fun x => sL17Copy x }
noncomputable def sCellIndex (a : GNotebook) (b : Int) : Option (Int) :=
  loopD (fun (x1 : Int × (List GCell) × Int) =>
    bif (decide (x1.2.2 < (x1.2.1.length : Int))) then
      (idx x1.2.1 x1.2.2).bind fun e2 =>
      bif (e2.id == x1.1) then
        some (.inr (x1.2.2))
      else
        some (.inl (x1.1, x1.2.1, w64 (x1.2.2 + 1)))
    else
      some (.inr ((-1)))
  ) (b, a.cells, 0)
noncomputable def sCellIndexFS : Fsp := { fid := 106, ps := [⟨true, .base .notebook⟩, ⟨false, .base .int⟩], rs := [⟨false, .base .int⟩], ex := true, fn := fun x => sCellIndex x.1 x.2 }
noncomputable def sIsPrintable (a : Str) : Option (Bool) :=
  loopD (fun (x1 : Str × Int) =>
    bif (decide (x1.2 < (x1.1.length : Int))) then
      (idx x1.1 x1.2).bind fun c2 =>
      bif (decide ((c2.toNat : Int) < 32)) then
        some (.inr (false))
      else
        (idx x1.1 x1.2).bind fun c3 =>
        bif (decide ((c3.toNat : Int) > 126)) then
          some (.inr (false))
        else
          some (.inl (x1.1, w64 (x1.2 + 1)))
    else
      some (.inr ((decide ((x1.1.length : Int) ≤ 120))))
  ) (a, 0)
noncomputable def sIsPrintableFS : Fsp := { fid := 156, ps := [⟨false, .base .str⟩], rs := [⟨false, .base .bool⟩], ex := true, fn := fun x => sIsPrintable x }
noncomputable def sIsValidCell (a : GCell) : Option (Bool) :=
  (sL1In a.id 1 999).bind fun r1 =>
  bif (!r1) then
    some (false)
  else
  (sL1In a.version 1 999).bind fun r2 =>
  bif (!r2) then
    some (false)
  else
  (sIsPrintable a.code).bind fun r3 =>
  bif (!r3) then
    some (false)
  else
  bif (a.kind == 1) then
    bif (a.name == []) then
      some ((a.n == 0))
    else
      some (false)
  else
  bif (a.kind == 2) then
    (sIsValidName a.name).bind fun r4 =>
    bif r4 then
      some ((a.n == 0))
    else
      some (false)
  else
  bif (a.kind == 4) then
    (sIsValidName a.name).bind fun r5 =>
    bif r5 then
      some ((a.n == 0))
    else
      some (false)
  else
  bif (a.kind == 3) then
    (sIsValidName a.name).bind fun r6 =>
    bif r6 then
      bif (a.code == []) then
        (sL1In a.n 0 100).bind fun r7 =>
        some (r7)
      else
        some (false)
    else
      some (false)
  else
    some (false)
noncomputable def sIsValidCellFS : Fsp := { fid := 107, ps := [⟨true, .base .cell⟩], rs := [⟨false, .base .bool⟩], ex := true, fn := fun x => sIsValidCell x }
noncomputable def sIsValidNotebook (a : GNotebook) : Option (Bool) :=
  loopD (fun (x1 : (List GCell) × Int) =>
    bif (decide (x1.2 < (x1.1.length : Int))) then
      (idx x1.1 x1.2).bind fun e2 =>
      (sIsValidCell e2).bind fun r3 =>
      bif (!r3) then
        some (.inr (false))
      else
        (idx x1.1 x1.2).bind fun e4 =>
        (sCellIndex (GNotebook.mk x1.1) e4.id).bind fun r5 =>
        bif (r5 != x1.2) then
          some (.inr (false))
        else
          some (.inl (x1.1, w64 (x1.2 + 1)))
    else
      some (.inr ((decide ((x1.1.length : Int) ≤ 8))))
  ) (a.cells, 0)
noncomputable def sIsValidNotebookFS : Fsp := { fid := 105, ps := [⟨true, .base .notebook⟩], rs := [⟨false, .base .bool⟩], ex := true, fn := fun x => sIsValidNotebook x }
noncomputable def sL1Min (a : Int) (b : Int) : Option (Int) :=
  bif (decide (a < b)) then
    some (a)
  else
    some (b)
noncomputable def sL1MinFS : Fsp := { fid := 159, ps := [⟨false, .base .int⟩, ⟨false, .base .int⟩], rs := [⟨false, .base .int⟩], ex := true, fn := fun x => sL1Min x.1 x.2 }
noncomputable def sL20Put (a : List GCell) (b : Int) (c : GCell) : Option ((List GCell)) :=
  (sL1Min b (a.length : Int)).bind fun r1 =>
  (sL1Max 0 r1).bind fun r2 =>
  (eff.cutL a none (some r2)).bind fun r3 =>
  (gd (0 + r3.length)).bind fun _ =>
  (gd (([] ++ r3).length + [c].length)).bind fun _ =>
  (eff.cutL a (some r2) none).bind fun r4 =>
  (gd ((([] ++ r3) ++ [c]).length + r4.length)).bind fun _ =>
  some ((([] ++ r3) ++ [c]) ++ r4)
noncomputable def sL20PutFS : Fsp := { fid := 108, ps := [⟨false, .list (.base .cell)⟩, ⟨false, .base .int⟩, ⟨true, .base .cell⟩], rs := [⟨false, .list (.base .cell)⟩], ex := true, fn := fun x => sL20Put x.1 x.2.1 x.2.2 }
noncomputable def sL20Drop (a : List GCell) (b : Int) : Option ((List GCell)) :=
  (eff.cutL a none (some b)).bind fun r1 =>
  (gd (0 + r1.length)).bind fun _ =>
  (eff.cutL a (some (w64 (b + 1))) none).bind fun r2 =>
  (gd (([] ++ r1).length + r2.length)).bind fun _ =>
  some (([] ++ r1) ++ r2)
noncomputable def sL20DropFS : Fsp := { fid := 109, ps := [⟨false, .list (.base .cell)⟩, ⟨false, .base .int⟩], rs := [⟨false, .list (.base .cell)⟩], ex := true, fn := fun x => sL20Drop x.1 x.2 }
noncomputable def sL20Cell (a : GCell) (b : GEdit) : Option (GCell × Int) :=
  bif (b.kind == 4) then
    bif (a.kind == 3) then
      some (a, 5)
    else
    bif (b.kind != 5) then
      bif (a.version == 999) then
        some (GCell.mk a.id a.version a.kind b.cell.name b.cell.code a.n, 6)
      else
        (sIsValidCell (GCell.mk a.id (w64 (a.version + 1)) a.kind b.cell.name b.cell.code a.n)).bind fun r1 =>
        bif (!r1) then
          some (GCell.mk a.id (w64 (a.version + 1)) a.kind b.cell.name b.cell.code a.n, 1)
        else
          some (GCell.mk a.id (w64 (a.version + 1)) a.kind b.cell.name b.cell.code a.n, 0)
    else
      (sIsValidCell (GCell.mk a.id a.version a.kind b.cell.name b.cell.code a.n)).bind fun r2 =>
      bif (!r2) then
        some (GCell.mk a.id a.version a.kind b.cell.name b.cell.code a.n, 1)
      else
        some (GCell.mk a.id a.version a.kind b.cell.name b.cell.code a.n, 0)
  else
  bif (b.kind == 5) then
    bif (a.kind != 3) then
      some (a, 5)
    else
    bif (b.kind != 5) then
      bif (a.version == 999) then
        some (GCell.mk a.id a.version a.kind a.name a.code b.cell.n, 6)
      else
        (sIsValidCell (GCell.mk a.id (w64 (a.version + 1)) a.kind a.name a.code b.cell.n)).bind fun r3 =>
        bif (!r3) then
          some (GCell.mk a.id (w64 (a.version + 1)) a.kind a.name a.code b.cell.n, 1)
        else
          some (GCell.mk a.id (w64 (a.version + 1)) a.kind a.name a.code b.cell.n, 0)
    else
      (sIsValidCell (GCell.mk a.id a.version a.kind a.name a.code b.cell.n)).bind fun r4 =>
      bif (!r4) then
        some (GCell.mk a.id a.version a.kind a.name a.code b.cell.n, 1)
      else
        some (GCell.mk a.id a.version a.kind a.name a.code b.cell.n, 0)
  else
  bif (a.kind != 2) then
    some (a, 5)
  else
  bif (b.kind != 5) then
    bif (a.version == 999) then
      some (a, 6)
    else
      (sIsValidCell (GCell.mk a.id (w64 (a.version + 1)) a.kind a.name a.code a.n)).bind fun r5 =>
      bif (!r5) then
        some (GCell.mk a.id (w64 (a.version + 1)) a.kind a.name a.code a.n, 1)
      else
        some (GCell.mk a.id (w64 (a.version + 1)) a.kind a.name a.code a.n, 0)
  else
    (sIsValidCell a).bind fun r6 =>
    bif (!r6) then
      some (a, 1)
    else
      some (a, 0)
noncomputable def sL20CellFS : Fsp := { fid := 110, ps := [⟨true, .base .cell⟩, ⟨true, .base .edit⟩], rs := [⟨true, .base .cell⟩, ⟨false, .base .int⟩], ex := true, fn := fun x => sL20Cell x.1 x.2 }
noncomputable def sApplyEdit (a : GNotebook) (b : GEdit) : Option (GNotebook × Int) :=
  (sL17Copy a).bind fun r1 =>
  (sIsValidNotebook a).bind fun r2 =>
  bif (!r2) then
    some (r1, 1)
  else
  (sL1In b.kind 1 6).bind fun r3 =>
  bif (!r3) then
    some (r1, 1)
  else
  (sCellIndex a b.cell.id).bind fun r4 =>
  bif (b.kind == 1) then
    (sIsValidCell b.cell).bind fun r5 =>
    bif (!r5) then
      some (r1, 1)
    else
      bif (decide (r4 ≥ 0)) then
        some (r1, 3)
      else
        bif ((a.cells.length : Int) == 8) then
          some (r1, 4)
        else
          (sL20Put a.cells b.pos b.cell).bind fun r6 =>
          some (GNotebook.mk r6, 0)
  else
  bif (decide (r4 < 0)) then
    some (r1, 2)
  else
  bif (b.kind == 2) then
    (sL20Drop a.cells r4).bind fun r7 =>
    some (GNotebook.mk r7, 0)
  else
  bif (b.kind == 3) then
    (sL20Drop a.cells r4).bind fun r8 =>
    (idx a.cells r4).bind fun e9 =>
    (sL20Put r8 b.pos e9).bind fun r10 =>
    some (GNotebook.mk r10, 0)
  else
    (idx a.cells r4).bind fun e11 =>
    (sL20Cell e11 b).bind fun r12 =>
    bif (r12.2 == 0) then
      (idx r1.cells r4).bind fun _ =>
      (r1.cells[r4.toNat]?).bind fun e14 =>
      some (GNotebook.mk (r1.cells.set r4.toNat r12.1), r12.2)
    else
      some (r1, r12.2)
noncomputable def sApplyEditFS : Fsp := { fid := 59, ps := [⟨true, .base .notebook⟩, ⟨true, .base .edit⟩], rs := [⟨true, .base .notebook⟩, ⟨false, .base .int⟩], ex := true, fn := fun x => sApplyEdit x.1 x.2 }
noncomputable def sL17Draw (a : GCur) (b : Int) : Option (GCur × GNotebook) :=
  (sL1Below a (w64 (b + 1))).bind fun r1 =>
  loopD (fun (x2 : (List Int) × Int × Int × (List GCell) × (List GCell) × Int × Int) =>
    bif (decide (x2.2.2.2.2.2.2 < x2.2.2.2.2.2.1)) then
      (sL17Cell (GCur.mk x2.1 x2.2.1 x2.2.2.1) (w64 (x2.2.2.2.2.2.2 + 1))).bind fun r3 =>
      bif (r3.2.kind != 1) then
        (sL1Once r3.1 10).bind fun r4 =>
        bif (!r4.2) then
          (idx ([[97], [98], [99], [100], [101], [97, 49], [98, 49], [99, 49]] : List Str) x2.2.2.2.2.2.2).bind fun _ =>
          (([[97], [98], [99], [100], [101], [97, 49], [98, 49], [99, 49]] : List Str)[x2.2.2.2.2.2.2.toNat]?).bind fun e6 =>
          (sL1Below r4.1 (w64 ((x2.2.2.2.2.1.length : Int) + 1))).bind fun r7 =>
          (eff.cutL x2.2.2.2.2.1 none (some r7.2)).bind fun r8 =>
          (gd (0 + r8.length)).bind fun _ =>
          (gd (([] ++ r8).length + [GCell.mk r3.2.id r3.2.version r3.2.kind e6 r3.2.code r3.2.n].length)).bind fun _ =>
          (eff.cutL x2.2.2.2.2.1 (some r7.2) none).bind fun r9 =>
          (gd ((([] ++ r8) ++ [GCell.mk r3.2.id r3.2.version r3.2.kind e6 r3.2.code r3.2.n]).length + r9.length)).bind fun _ =>
          some (.inl (r7.1.b, r7.1.i, r7.1.h, x2.2.2.2.1, (([] ++ r8) ++ [GCell.mk r3.2.id r3.2.version r3.2.kind e6 r3.2.code r3.2.n]) ++ r9, x2.2.2.2.2.2.1, w64 (x2.2.2.2.2.2.2 + 1)))
        else
          (sL1Below r4.1 (w64 ((x2.2.2.2.2.1.length : Int) + 1))).bind fun r10 =>
          (eff.cutL x2.2.2.2.2.1 none (some r10.2)).bind fun r11 =>
          (gd (0 + r11.length)).bind fun _ =>
          (gd (([] ++ r11).length + [r3.2].length)).bind fun _ =>
          (eff.cutL x2.2.2.2.2.1 (some r10.2) none).bind fun r12 =>
          (gd ((([] ++ r11) ++ [r3.2]).length + r12.length)).bind fun _ =>
          some (.inl (r10.1.b, r10.1.i, r10.1.h, x2.2.2.2.1, (([] ++ r11) ++ [r3.2]) ++ r12, x2.2.2.2.2.2.1, w64 (x2.2.2.2.2.2.2 + 1)))
      else
        (sL1Below r3.1 (w64 ((x2.2.2.2.2.1.length : Int) + 1))).bind fun r13 =>
        (eff.cutL x2.2.2.2.2.1 none (some r13.2)).bind fun r14 =>
        (gd (0 + r14.length)).bind fun _ =>
        (gd (([] ++ r14).length + [r3.2].length)).bind fun _ =>
        (eff.cutL x2.2.2.2.2.1 (some r13.2) none).bind fun r15 =>
        (gd ((([] ++ r14) ++ [r3.2]).length + r15.length)).bind fun _ =>
        some (.inl (r13.1.b, r13.1.i, r13.1.h, x2.2.2.2.1, (([] ++ r14) ++ [r3.2]) ++ r15, x2.2.2.2.2.2.1, w64 (x2.2.2.2.2.2.2 + 1)))
    else
      some (.inr (GCur.mk x2.1 x2.2.1 x2.2.2.1, GNotebook.mk x2.2.2.2.2.1))
  ) (r1.1.b, r1.1.i, r1.1.h, [], [], r1.2, 0)
noncomputable def sL17DrawFS : Fsp := { fid := 100, ps := [⟨true, .base .cur⟩, ⟨false, .base .int⟩], rs := [⟨true, .base .cur⟩, ⟨true, .base .notebook⟩], ex := false, sh := true, fn := fun x => sL17Draw x.1 x.2 }
noncomputable def sL17Bent (a : GCur) : Option (GCur × GNotebook) :=
  (sL17Draw a 6).bind fun r1 =>
  bif ((r1.2.cells.length : Int) == 0) then
    some (r1.1, r1.2)
  else
  (sL1Below r1.1 (r1.2.cells.length : Int)).bind fun r2 =>
  (sL1Below r2.1 12).bind fun r3 =>
  bif (r3.2 == 0) then
    (sL1PickInt r3.1 [0, 1, 1000]).bind fun r4 =>
    (idx r1.2.cells r2.2).bind fun _ =>
    (r1.2.cells[r2.2.toNat]?).bind fun e6 =>
    some (r4.1, GNotebook.mk (r1.2.cells.set r2.2.toNat (GCell.mk r4.2 e6.version e6.kind e6.name e6.code e6.n)))
  else
  bif (r3.2 == 1) then
    (sL1PickInt r3.1 [0, 999, 1000]).bind fun r7 =>
    (idx r1.2.cells r2.2).bind fun _ =>
    (r1.2.cells[r2.2.toNat]?).bind fun e9 =>
    some (r7.1, GNotebook.mk (r1.2.cells.set r2.2.toNat (GCell.mk e9.id r7.2 e9.kind e9.name e9.code e9.n)))
  else
  bif (r3.2 == 2) then
    (sL1Below r3.1 6).bind fun r10 =>
    (idx r1.2.cells r2.2).bind fun _ =>
    (r1.2.cells[r2.2.toNat]?).bind fun e12 =>
    some (r10.1, GNotebook.mk (r1.2.cells.set r2.2.toNat (GCell.mk e12.id e12.version r10.2 e12.name e12.code e12.n)))
  else
  bif (r3.2 == 3) then
    (idx r1.2.cells r2.2).bind fun _ =>
    (r1.2.cells[r2.2.toNat]?).bind fun e14 =>
    (gd (e14.code.length + [10].length)).bind fun _ =>
    (idx r1.2.cells r2.2).bind fun _ =>
    (r1.2.cells[r2.2.toNat]?).bind fun e16 =>
    some (r3.1, GNotebook.mk (r1.2.cells.set r2.2.toNat (GCell.mk e16.id e16.version e16.kind e16.name (e14.code ++ [10]) e16.n)))
  else
  bif (r3.2 == 4) then
    (sL1Pick r3.1 ([[108, 101, 116], [], [120]] : List Str)).bind fun r17 =>
    (idx r1.2.cells r2.2).bind fun _ =>
    (r1.2.cells[r2.2.toNat]?).bind fun e19 =>
    some (r17.1, GNotebook.mk (r1.2.cells.set r2.2.toNat (GCell.mk e19.id e19.version e19.kind r17.2 e19.code e19.n)))
  else
  bif (r3.2 == 5) then
    loopD (fun (x20 : (List Int) × Int × Int × (List GCell) × (List GCell)) =>
      (sL1Below (GCur.mk x20.1 x20.2.1 x20.2.2.1) 2).bind fun r21 =>
      bif (decide ((x20.2.2.2.2.length : Int) < (w64 (8 + r21.2)))) then
        (sL17Cell r21.1 (w64 (20 + (x20.2.2.2.2.length : Int)))).bind fun r22 =>
        (gd (x20.2.2.2.2.length + [r22.2].length)).bind fun _ =>
        some (.inl (r22.1.b, r22.1.i, r22.1.h, x20.2.2.2.1, x20.2.2.2.2 ++ [r22.2]))
      else
        some (.inr (r21.1, GNotebook.mk x20.2.2.2.2))
    ) (r3.1.b, r3.1.i, r3.1.h, [], r1.2.cells)
  else
    some (r3.1, r1.2)
noncomputable def sL17BentFS : Fsp := { fid := 101, ps := [⟨true, .base .cur⟩], rs := [⟨true, .base .cur⟩, ⟨true, .base .notebook⟩], ex := false, sh := true, fn := fun x => sL17Bent x }
noncomputable def sL20Draw (a : GCur) (b : GNotebook) : Option (GCur × GEdit) :=
  (sL1Below a 6).bind fun r1 =>
  (sL1Below r1.1 10).bind fun r2 =>
  joinD (X := (List Int) × Int × Int × (List GCell) × Int × Int × Int × Int × Int × Str × Str × Int × Int × Int × Int × Int × Int × Str × Str × Int) (
    bif (decide ((b.cells.length : Int) < 2)) then
      (sL1Once r2.1 2).bind fun r4 =>
      bif r4.2 then
        some (.inl (r4.1.b, r4.1.i, r4.1.h, b.cells, 0, 0, 0, 0, 0, [], [], 0, 1, w64 (r2.2 - 1), 0, 0, 0, [], [], 0))
      else
        some (.inl (r4.1.b, r4.1.i, r4.1.h, b.cells, 0, 0, 0, 0, 0, [], [], 0, w64 (1 + r1.2), w64 (r2.2 - 1), 0, 0, 0, [], [], 0))
    else
      some (.inl (r2.1.b, r2.1.i, r2.1.h, b.cells, 0, 0, 0, 0, 0, [], [], 0, w64 (1 + r1.2), w64 (r2.2 - 1), 0, 0, 0, [], [], 0))
  ) fun (j3 : (List Int) × Int × Int × (List GCell) × Int × Int × Int × Int × Int × Str × Str × Int × Int × Int × Int × Int × Int × Str × Str × Int) =>
  bif (j3.2.2.2.2.2.2.2.2.2.2.2.2.1 == 1) then
    (sL1Below (GCur.mk j3.1 j3.2.1 j3.2.2.1) 20).bind fun r5 =>
    (sL17Cell r5.1 (w64 (1 + r5.2))).bind fun r6 =>
    some (r6.1, GEdit.mk j3.2.2.2.2.2.2.2.2.2.2.2.2.1 j3.2.2.2.2.2.2.2.2.2.2.2.2.2.1 r6.2)
  else
  (sL1Below (GCur.mk j3.1 j3.2.1 j3.2.2.1) 8).bind fun r7 =>
  (sL17Cell r7.1 (w64 (1 + r7.2))).bind fun r8 =>
  joinD (X := (List Int) × Int × Int × Int × Int × Int × Int × Int × Str × Str × Int × Int × Int × Int × Int × Int × Str × Str × Int × Int × Int × Int × Str × Str × Int) (
    bif (decide ((j3.2.2.2.1.length : Int) > 0)) then
      (sL1Once r8.1 8).bind fun r10 =>
      bif (!r10.2) then
        (sL1Below r10.1 (j3.2.2.2.1.length : Int)).bind fun r11 =>
        (idx j3.2.2.2.1 r11.2).bind fun e12 =>
        joinD (X := (List Int) × Int × Int × Int × Int × Int × Int × Int × Str × Str × Int × Int × Int × Int × Int × Int × Str × Str × Int × Int × Int × Int × Str × Str × Int × Int × Int × Int × Str × Str × Int) (
          (sL1Once r11.1 4).bind fun r14 =>
          bif (!r14.2) then
            some (.inl (r14.1.b, r14.1.i, r14.1.h, j3.2.2.2.2.1, j3.2.2.2.2.2.1, j3.2.2.2.2.2.2.1, j3.2.2.2.2.2.2.2.1, j3.2.2.2.2.2.2.2.2.1, j3.2.2.2.2.2.2.2.2.2.1, j3.2.2.2.2.2.2.2.2.2.2.1, j3.2.2.2.2.2.2.2.2.2.2.2.1, j3.2.2.2.2.2.2.2.2.2.2.2.2.1, j3.2.2.2.2.2.2.2.2.2.2.2.2.2.1, j3.2.2.2.2.2.2.2.2.2.2.2.2.2.2.1, j3.2.2.2.2.2.2.2.2.2.2.2.2.2.2.2.1, j3.2.2.2.2.2.2.2.2.2.2.2.2.2.2.2.2.1, j3.2.2.2.2.2.2.2.2.2.2.2.2.2.2.2.2.2.1, j3.2.2.2.2.2.2.2.2.2.2.2.2.2.2.2.2.2.2.1, j3.2.2.2.2.2.2.2.2.2.2.2.2.2.2.2.2.2.2.2, e12.id, r8.2.version, r8.2.kind, e12.name, r8.2.code, r8.2.n, e12.id, e12.version, e12.kind, e12.name, e12.code, e12.n))
          else
            some (.inl (r14.1.b, r14.1.i, r14.1.h, j3.2.2.2.2.1, j3.2.2.2.2.2.1, j3.2.2.2.2.2.2.1, j3.2.2.2.2.2.2.2.1, j3.2.2.2.2.2.2.2.2.1, j3.2.2.2.2.2.2.2.2.2.1, j3.2.2.2.2.2.2.2.2.2.2.1, j3.2.2.2.2.2.2.2.2.2.2.2.1, j3.2.2.2.2.2.2.2.2.2.2.2.2.1, j3.2.2.2.2.2.2.2.2.2.2.2.2.2.1, j3.2.2.2.2.2.2.2.2.2.2.2.2.2.2.1, j3.2.2.2.2.2.2.2.2.2.2.2.2.2.2.2.1, j3.2.2.2.2.2.2.2.2.2.2.2.2.2.2.2.2.1, j3.2.2.2.2.2.2.2.2.2.2.2.2.2.2.2.2.2.1, j3.2.2.2.2.2.2.2.2.2.2.2.2.2.2.2.2.2.2.1, j3.2.2.2.2.2.2.2.2.2.2.2.2.2.2.2.2.2.2.2, e12.id, r8.2.version, r8.2.kind, r8.2.name, r8.2.code, r8.2.n, e12.id, e12.version, e12.kind, e12.name, e12.code, e12.n))
        ) fun (j13 : (List Int) × Int × Int × Int × Int × Int × Int × Int × Str × Str × Int × Int × Int × Int × Int × Int × Str × Str × Int × Int × Int × Int × Str × Str × Int × Int × Int × Int × Str × Str × Int) =>
        joinD (X := (List Int) × Int × Int × Int × Int × Int × Int × Int × Str × Str × Int × Int × Int × Int × Int × Int × Str × Str × Int × Int × Int × Int × Str × Str × Int × Int × Int × Int × Str × Str × Int) (
          bif (j13.2.2.2.2.2.2.2.2.2.2.2.2.2.2.2.2.2.2.2.2.2.2.2.2.2.2.2.1 == 4) then
            (sL1Once (GCur.mk j13.1 j13.2.1 j13.2.2.1) 6).bind fun r16 =>
            bif (!r16.2) then
              (sL17Data r16.1).bind fun r17 =>
              some (.inl (r17.1.b, r17.1.i, r17.1.h, j13.2.2.2.1, j13.2.2.2.2.1, j13.2.2.2.2.2.1, j13.2.2.2.2.2.2.1, j13.2.2.2.2.2.2.2.1, j13.2.2.2.2.2.2.2.2.1, j13.2.2.2.2.2.2.2.2.2.1, j13.2.2.2.2.2.2.2.2.2.2.1, j13.2.2.2.2.2.2.2.2.2.2.2.1, j13.2.2.2.2.2.2.2.2.2.2.2.2.1, j13.2.2.2.2.2.2.2.2.2.2.2.2.2.1, j13.2.2.2.2.2.2.2.2.2.2.2.2.2.2.1, j13.2.2.2.2.2.2.2.2.2.2.2.2.2.2.2.1, j13.2.2.2.2.2.2.2.2.2.2.2.2.2.2.2.2.1, j13.2.2.2.2.2.2.2.2.2.2.2.2.2.2.2.2.2.1, j13.2.2.2.2.2.2.2.2.2.2.2.2.2.2.2.2.2.2.1, j13.2.2.2.2.2.2.2.2.2.2.2.2.2.2.2.2.2.2.2.1, j13.2.2.2.2.2.2.2.2.2.2.2.2.2.2.2.2.2.2.2.2.1, j13.2.2.2.2.2.2.2.2.2.2.2.2.2.2.2.2.2.2.2.2.2.1, j13.2.2.2.2.2.2.2.2.2.2.2.2.2.2.2.2.2.2.2.2.2.2.1, r17.2, j13.2.2.2.2.2.2.2.2.2.2.2.2.2.2.2.2.2.2.2.2.2.2.2.2.1, j13.2.2.2.2.2.2.2.2.2.2.2.2.2.2.2.2.2.2.2.2.2.2.2.2.2.1, j13.2.2.2.2.2.2.2.2.2.2.2.2.2.2.2.2.2.2.2.2.2.2.2.2.2.2.1, j13.2.2.2.2.2.2.2.2.2.2.2.2.2.2.2.2.2.2.2.2.2.2.2.2.2.2.2.1, j13.2.2.2.2.2.2.2.2.2.2.2.2.2.2.2.2.2.2.2.2.2.2.2.2.2.2.2.2.1, j13.2.2.2.2.2.2.2.2.2.2.2.2.2.2.2.2.2.2.2.2.2.2.2.2.2.2.2.2.2.1, j13.2.2.2.2.2.2.2.2.2.2.2.2.2.2.2.2.2.2.2.2.2.2.2.2.2.2.2.2.2.2))
            else
              some (.inl (r16.1.b, r16.1.i, r16.1.h, j13.2.2.2.1, j13.2.2.2.2.1, j13.2.2.2.2.2.1, j13.2.2.2.2.2.2.1, j13.2.2.2.2.2.2.2.1, j13.2.2.2.2.2.2.2.2.1, j13.2.2.2.2.2.2.2.2.2.1, j13.2.2.2.2.2.2.2.2.2.2.1, j13.2.2.2.2.2.2.2.2.2.2.2.1, j13.2.2.2.2.2.2.2.2.2.2.2.2.1, j13.2.2.2.2.2.2.2.2.2.2.2.2.2.1, j13.2.2.2.2.2.2.2.2.2.2.2.2.2.2.1, j13.2.2.2.2.2.2.2.2.2.2.2.2.2.2.2.1, j13.2.2.2.2.2.2.2.2.2.2.2.2.2.2.2.2.1, j13.2.2.2.2.2.2.2.2.2.2.2.2.2.2.2.2.2.1, j13.2.2.2.2.2.2.2.2.2.2.2.2.2.2.2.2.2.2.1, j13.2.2.2.2.2.2.2.2.2.2.2.2.2.2.2.2.2.2.2.1, j13.2.2.2.2.2.2.2.2.2.2.2.2.2.2.2.2.2.2.2.2.1, j13.2.2.2.2.2.2.2.2.2.2.2.2.2.2.2.2.2.2.2.2.2.1, j13.2.2.2.2.2.2.2.2.2.2.2.2.2.2.2.2.2.2.2.2.2.2.1, j13.2.2.2.2.2.2.2.2.2.2.2.2.2.2.2.2.2.2.2.2.2.2.2.1, j13.2.2.2.2.2.2.2.2.2.2.2.2.2.2.2.2.2.2.2.2.2.2.2.2.1, j13.2.2.2.2.2.2.2.2.2.2.2.2.2.2.2.2.2.2.2.2.2.2.2.2.2.1, j13.2.2.2.2.2.2.2.2.2.2.2.2.2.2.2.2.2.2.2.2.2.2.2.2.2.2.1, j13.2.2.2.2.2.2.2.2.2.2.2.2.2.2.2.2.2.2.2.2.2.2.2.2.2.2.2.1, j13.2.2.2.2.2.2.2.2.2.2.2.2.2.2.2.2.2.2.2.2.2.2.2.2.2.2.2.2.1, j13.2.2.2.2.2.2.2.2.2.2.2.2.2.2.2.2.2.2.2.2.2.2.2.2.2.2.2.2.2.1, j13.2.2.2.2.2.2.2.2.2.2.2.2.2.2.2.2.2.2.2.2.2.2.2.2.2.2.2.2.2.2))
          else
            some (.inl (j13.1, j13.2.1, j13.2.2.1, j13.2.2.2.1, j13.2.2.2.2.1, j13.2.2.2.2.2.1, j13.2.2.2.2.2.2.1, j13.2.2.2.2.2.2.2.1, j13.2.2.2.2.2.2.2.2.1, j13.2.2.2.2.2.2.2.2.2.1, j13.2.2.2.2.2.2.2.2.2.2.1, j13.2.2.2.2.2.2.2.2.2.2.2.1, j13.2.2.2.2.2.2.2.2.2.2.2.2.1, j13.2.2.2.2.2.2.2.2.2.2.2.2.2.1, j13.2.2.2.2.2.2.2.2.2.2.2.2.2.2.1, j13.2.2.2.2.2.2.2.2.2.2.2.2.2.2.2.1, j13.2.2.2.2.2.2.2.2.2.2.2.2.2.2.2.2.1, j13.2.2.2.2.2.2.2.2.2.2.2.2.2.2.2.2.2.1, j13.2.2.2.2.2.2.2.2.2.2.2.2.2.2.2.2.2.2.1, j13.2.2.2.2.2.2.2.2.2.2.2.2.2.2.2.2.2.2.2.1, j13.2.2.2.2.2.2.2.2.2.2.2.2.2.2.2.2.2.2.2.2.1, j13.2.2.2.2.2.2.2.2.2.2.2.2.2.2.2.2.2.2.2.2.2.1, j13.2.2.2.2.2.2.2.2.2.2.2.2.2.2.2.2.2.2.2.2.2.2.1, j13.2.2.2.2.2.2.2.2.2.2.2.2.2.2.2.2.2.2.2.2.2.2.2.1, j13.2.2.2.2.2.2.2.2.2.2.2.2.2.2.2.2.2.2.2.2.2.2.2.2.1, j13.2.2.2.2.2.2.2.2.2.2.2.2.2.2.2.2.2.2.2.2.2.2.2.2.2.1, j13.2.2.2.2.2.2.2.2.2.2.2.2.2.2.2.2.2.2.2.2.2.2.2.2.2.2.1, j13.2.2.2.2.2.2.2.2.2.2.2.2.2.2.2.2.2.2.2.2.2.2.2.2.2.2.2.1, j13.2.2.2.2.2.2.2.2.2.2.2.2.2.2.2.2.2.2.2.2.2.2.2.2.2.2.2.2.1, j13.2.2.2.2.2.2.2.2.2.2.2.2.2.2.2.2.2.2.2.2.2.2.2.2.2.2.2.2.2.1, j13.2.2.2.2.2.2.2.2.2.2.2.2.2.2.2.2.2.2.2.2.2.2.2.2.2.2.2.2.2.2))
        ) fun (j15 : (List Int) × Int × Int × Int × Int × Int × Int × Int × Str × Str × Int × Int × Int × Int × Int × Int × Str × Str × Int × Int × Int × Int × Str × Str × Int × Int × Int × Int × Str × Str × Int) =>
        bif (j15.2.2.2.2.2.2.2.2.2.2.2.2.2.2.2.2.2.2.2.2.2.2.2.2.2.2.2.1 == 3) then
          (sL1Once (GCur.mk j15.1 j15.2.1 j15.2.2.1) 2).bind fun r18 =>
          bif r18.2 then
            some (.inl (r18.1.b, r18.1.i, r18.1.h, j15.2.2.2.1, j15.2.2.2.2.1, j15.2.2.2.2.2.1, j15.2.2.2.2.2.2.1, j15.2.2.2.2.2.2.2.1, j15.2.2.2.2.2.2.2.2.1, j15.2.2.2.2.2.2.2.2.2.1, j15.2.2.2.2.2.2.2.2.2.2.1, 5, j15.2.2.2.2.2.2.2.2.2.2.2.2.1, j15.2.2.2.2.2.2.2.2.2.2.2.2.2.1, j15.2.2.2.2.2.2.2.2.2.2.2.2.2.2.1, j15.2.2.2.2.2.2.2.2.2.2.2.2.2.2.2.1, j15.2.2.2.2.2.2.2.2.2.2.2.2.2.2.2.2.1, j15.2.2.2.2.2.2.2.2.2.2.2.2.2.2.2.2.2.1, j15.2.2.2.2.2.2.2.2.2.2.2.2.2.2.2.2.2.2.1, j15.2.2.2.2.2.2.2.2.2.2.2.2.2.2.2.2.2.2.2.1, j15.2.2.2.2.2.2.2.2.2.2.2.2.2.2.2.2.2.2.2.2.1, j15.2.2.2.2.2.2.2.2.2.2.2.2.2.2.2.2.2.2.2.2.2.1, j15.2.2.2.2.2.2.2.2.2.2.2.2.2.2.2.2.2.2.2.2.2.2.1, j15.2.2.2.2.2.2.2.2.2.2.2.2.2.2.2.2.2.2.2.2.2.2.2.1, j15.2.2.2.2.2.2.2.2.2.2.2.2.2.2.2.2.2.2.2.2.2.2.2.2.1))
          else
            some (.inl (r18.1.b, r18.1.i, r18.1.h, j15.2.2.2.1, j15.2.2.2.2.1, j15.2.2.2.2.2.1, j15.2.2.2.2.2.2.1, j15.2.2.2.2.2.2.2.1, j15.2.2.2.2.2.2.2.2.1, j15.2.2.2.2.2.2.2.2.2.1, j15.2.2.2.2.2.2.2.2.2.2.1, j15.2.2.2.2.2.2.2.2.2.2.2.1, j15.2.2.2.2.2.2.2.2.2.2.2.2.1, j15.2.2.2.2.2.2.2.2.2.2.2.2.2.1, j15.2.2.2.2.2.2.2.2.2.2.2.2.2.2.1, j15.2.2.2.2.2.2.2.2.2.2.2.2.2.2.2.1, j15.2.2.2.2.2.2.2.2.2.2.2.2.2.2.2.2.1, j15.2.2.2.2.2.2.2.2.2.2.2.2.2.2.2.2.2.1, j15.2.2.2.2.2.2.2.2.2.2.2.2.2.2.2.2.2.2.1, j15.2.2.2.2.2.2.2.2.2.2.2.2.2.2.2.2.2.2.2.1, j15.2.2.2.2.2.2.2.2.2.2.2.2.2.2.2.2.2.2.2.2.1, j15.2.2.2.2.2.2.2.2.2.2.2.2.2.2.2.2.2.2.2.2.2.1, j15.2.2.2.2.2.2.2.2.2.2.2.2.2.2.2.2.2.2.2.2.2.2.1, j15.2.2.2.2.2.2.2.2.2.2.2.2.2.2.2.2.2.2.2.2.2.2.2.1, j15.2.2.2.2.2.2.2.2.2.2.2.2.2.2.2.2.2.2.2.2.2.2.2.2.1))
        else
          some (.inl (j15.1, j15.2.1, j15.2.2.1, j15.2.2.2.1, j15.2.2.2.2.1, j15.2.2.2.2.2.1, j15.2.2.2.2.2.2.1, j15.2.2.2.2.2.2.2.1, j15.2.2.2.2.2.2.2.2.1, j15.2.2.2.2.2.2.2.2.2.1, j15.2.2.2.2.2.2.2.2.2.2.1, j15.2.2.2.2.2.2.2.2.2.2.2.1, j15.2.2.2.2.2.2.2.2.2.2.2.2.1, j15.2.2.2.2.2.2.2.2.2.2.2.2.2.1, j15.2.2.2.2.2.2.2.2.2.2.2.2.2.2.1, j15.2.2.2.2.2.2.2.2.2.2.2.2.2.2.2.1, j15.2.2.2.2.2.2.2.2.2.2.2.2.2.2.2.2.1, j15.2.2.2.2.2.2.2.2.2.2.2.2.2.2.2.2.2.1, j15.2.2.2.2.2.2.2.2.2.2.2.2.2.2.2.2.2.2.1, j15.2.2.2.2.2.2.2.2.2.2.2.2.2.2.2.2.2.2.2.1, j15.2.2.2.2.2.2.2.2.2.2.2.2.2.2.2.2.2.2.2.2.1, j15.2.2.2.2.2.2.2.2.2.2.2.2.2.2.2.2.2.2.2.2.2.1, j15.2.2.2.2.2.2.2.2.2.2.2.2.2.2.2.2.2.2.2.2.2.2.1, j15.2.2.2.2.2.2.2.2.2.2.2.2.2.2.2.2.2.2.2.2.2.2.2.1, j15.2.2.2.2.2.2.2.2.2.2.2.2.2.2.2.2.2.2.2.2.2.2.2.2.1))
      else
        some (.inl (r10.1.b, r10.1.i, r10.1.h, j3.2.2.2.2.1, j3.2.2.2.2.2.1, j3.2.2.2.2.2.2.1, j3.2.2.2.2.2.2.2.1, j3.2.2.2.2.2.2.2.2.1, j3.2.2.2.2.2.2.2.2.2.1, j3.2.2.2.2.2.2.2.2.2.2.1, j3.2.2.2.2.2.2.2.2.2.2.2.1, j3.2.2.2.2.2.2.2.2.2.2.2.2.1, j3.2.2.2.2.2.2.2.2.2.2.2.2.2.1, j3.2.2.2.2.2.2.2.2.2.2.2.2.2.2.1, j3.2.2.2.2.2.2.2.2.2.2.2.2.2.2.2.1, j3.2.2.2.2.2.2.2.2.2.2.2.2.2.2.2.2.1, j3.2.2.2.2.2.2.2.2.2.2.2.2.2.2.2.2.2.1, j3.2.2.2.2.2.2.2.2.2.2.2.2.2.2.2.2.2.2.1, j3.2.2.2.2.2.2.2.2.2.2.2.2.2.2.2.2.2.2.2, r8.2.id, r8.2.version, r8.2.kind, r8.2.name, r8.2.code, r8.2.n))
    else
      some (.inl (r8.1.b, r8.1.i, r8.1.h, j3.2.2.2.2.1, j3.2.2.2.2.2.1, j3.2.2.2.2.2.2.1, j3.2.2.2.2.2.2.2.1, j3.2.2.2.2.2.2.2.2.1, j3.2.2.2.2.2.2.2.2.2.1, j3.2.2.2.2.2.2.2.2.2.2.1, j3.2.2.2.2.2.2.2.2.2.2.2.1, j3.2.2.2.2.2.2.2.2.2.2.2.2.1, j3.2.2.2.2.2.2.2.2.2.2.2.2.2.1, j3.2.2.2.2.2.2.2.2.2.2.2.2.2.2.1, j3.2.2.2.2.2.2.2.2.2.2.2.2.2.2.2.1, j3.2.2.2.2.2.2.2.2.2.2.2.2.2.2.2.2.1, j3.2.2.2.2.2.2.2.2.2.2.2.2.2.2.2.2.2.1, j3.2.2.2.2.2.2.2.2.2.2.2.2.2.2.2.2.2.2.1, j3.2.2.2.2.2.2.2.2.2.2.2.2.2.2.2.2.2.2.2, r8.2.id, r8.2.version, r8.2.kind, r8.2.name, r8.2.code, r8.2.n))
  ) fun (j9 : (List Int) × Int × Int × Int × Int × Int × Int × Int × Str × Str × Int × Int × Int × Int × Int × Int × Str × Str × Int × Int × Int × Int × Str × Str × Int) =>
  joinD (X := (List Int) × Int × Int × Int × Int × Int × Int × Int × Str × Str × Int × Int × Int × Int × Int × Int × Str × Str × Int) (
    bif (j9.2.2.2.2.2.2.2.2.2.2.2.1 == 5) then
      (sL1Below (GCur.mk j9.1 j9.2.1 j9.2.2.1) 10).bind fun r20 =>
      some (.inl (r20.1.b, r20.1.i, r20.1.h, j9.2.2.2.1, j9.2.2.2.2.1, j9.2.2.2.2.2.1, j9.2.2.2.2.2.2.1, j9.2.2.2.2.2.2.2.1, j9.2.2.2.2.2.2.2.2.1, j9.2.2.2.2.2.2.2.2.2.1, j9.2.2.2.2.2.2.2.2.2.2.1, j9.2.2.2.2.2.2.2.2.2.2.2.1, j9.2.2.2.2.2.2.2.2.2.2.2.2.1, j9.2.2.2.2.2.2.2.2.2.2.2.2.2.2.2.2.2.2.2.1, j9.2.2.2.2.2.2.2.2.2.2.2.2.2.2.2.2.2.2.2.2.1, j9.2.2.2.2.2.2.2.2.2.2.2.2.2.2.2.2.2.2.2.2.2.1, j9.2.2.2.2.2.2.2.2.2.2.2.2.2.2.2.2.2.2.2.2.2.2.1, j9.2.2.2.2.2.2.2.2.2.2.2.2.2.2.2.2.2.2.2.2.2.2.2.1, r20.2))
    else
      some (.inl (j9.1, j9.2.1, j9.2.2.1, j9.2.2.2.1, j9.2.2.2.2.1, j9.2.2.2.2.2.1, j9.2.2.2.2.2.2.1, j9.2.2.2.2.2.2.2.1, j9.2.2.2.2.2.2.2.2.1, j9.2.2.2.2.2.2.2.2.2.1, j9.2.2.2.2.2.2.2.2.2.2.1, j9.2.2.2.2.2.2.2.2.2.2.2.1, j9.2.2.2.2.2.2.2.2.2.2.2.2.1, j9.2.2.2.2.2.2.2.2.2.2.2.2.2.2.2.2.2.2.2.1, j9.2.2.2.2.2.2.2.2.2.2.2.2.2.2.2.2.2.2.2.2.1, j9.2.2.2.2.2.2.2.2.2.2.2.2.2.2.2.2.2.2.2.2.2.1, j9.2.2.2.2.2.2.2.2.2.2.2.2.2.2.2.2.2.2.2.2.2.2.1, j9.2.2.2.2.2.2.2.2.2.2.2.2.2.2.2.2.2.2.2.2.2.2.2.1, j9.2.2.2.2.2.2.2.2.2.2.2.2.2.2.2.2.2.2.2.2.2.2.2.2))
  ) fun (j19 : (List Int) × Int × Int × Int × Int × Int × Int × Int × Str × Str × Int × Int × Int × Int × Int × Int × Str × Str × Int) =>
  (sL1Once (GCur.mk j19.1 j19.2.1 j19.2.2.1) 20).bind fun r21 =>
  bif r21.2 then
    (sL1Below r21.1 9).bind fun r22 =>
    some (r22.1, GEdit.mk r22.2 j19.2.2.2.2.2.2.2.2.2.2.2.2.1 (GCell.mk j19.2.2.2.2.2.2.2.2.2.2.2.2.2.1 j19.2.2.2.2.2.2.2.2.2.2.2.2.2.2.1 j19.2.2.2.2.2.2.2.2.2.2.2.2.2.2.2.1 j19.2.2.2.2.2.2.2.2.2.2.2.2.2.2.2.2.1 j19.2.2.2.2.2.2.2.2.2.2.2.2.2.2.2.2.2.1 j19.2.2.2.2.2.2.2.2.2.2.2.2.2.2.2.2.2.2))
  else
    some (r21.1, GEdit.mk j19.2.2.2.2.2.2.2.2.2.2.2.1 j19.2.2.2.2.2.2.2.2.2.2.2.2.1 (GCell.mk j19.2.2.2.2.2.2.2.2.2.2.2.2.2.1 j19.2.2.2.2.2.2.2.2.2.2.2.2.2.2.1 j19.2.2.2.2.2.2.2.2.2.2.2.2.2.2.2.1 j19.2.2.2.2.2.2.2.2.2.2.2.2.2.2.2.2.1 j19.2.2.2.2.2.2.2.2.2.2.2.2.2.2.2.2.2.1 j19.2.2.2.2.2.2.2.2.2.2.2.2.2.2.2.2.2.2))
noncomputable def sL20DrawFS : Fsp := { fid := 152, ps := [⟨true, .base .cur⟩, ⟨true, .base .notebook⟩], rs := [⟨true, .base .cur⟩, ⟨true, .base .edit⟩], ex := false, fn := fun x => sL20Draw x.1 x.2 }
noncomputable def sL20Edits (a : GCur) (b : GNotebook) (c : Int) : Option (GCur × (List GEdit)) :=
  (sL1Below a (w64 (c + 1))).bind fun r1 =>
  loopD (fun (x2 : (List Int) × Int × Int × (List GCell) × (List GEdit) × Int × Int) =>
    bif (decide (x2.2.2.2.2.2.2 < x2.2.2.2.2.2.1)) then
      (sL20Draw (GCur.mk x2.1 x2.2.1 x2.2.2.1) (GNotebook.mk x2.2.2.2.1)).bind fun r3 =>
      (gd (x2.2.2.2.2.1.length + [r3.2].length)).bind fun _ =>
      (sApplyEdit (GNotebook.mk x2.2.2.2.1) r3.2).bind fun r4 =>
      some (.inl (r3.1.b, r3.1.i, r3.1.h, r4.1.cells, x2.2.2.2.2.1 ++ [r3.2], x2.2.2.2.2.2.1, w64 (x2.2.2.2.2.2.2 + 1)))
    else
      some (.inr (GCur.mk x2.1 x2.2.1 x2.2.2.1, x2.2.2.2.2.1))
  ) (r1.1.b, r1.1.i, r1.1.h, b.cells, [], r1.2, 0)
noncomputable def sL20EditsFS : Fsp := { fid := 102, ps := [⟨true, .base .cur⟩, ⟨true, .base .notebook⟩, ⟨false, .base .int⟩], rs := [⟨true, .base .cur⟩, ⟨false, .list (.base .edit)⟩], ex := false, sh := true, fn := fun x => sL20Edits x.1 x.2.1 x.2.2 }
noncomputable def sL39Args (a : List Int) : Option (GNotebook × (List GEdit)) :=
  (sL1New a).bind fun r1 =>
  (sL17Draw r1 6).bind fun r2 =>
  (sL1Once r2.1 20).bind fun r3 =>
  bif r3.2 then
    (sL17Bent r3.1).bind fun r4 =>
    (sL20Edits r4.1 r4.2 4).bind fun r5 =>
    (sL1Once r5.1 3).bind fun r6 =>
    bif (!r6.2) then
      loopD (fun (x7 : (List GCell) × (List GCell) × (List GEdit) × (List GEdit) × (List GCell) × Int) =>
        bif (decide (x7.2.2.2.2.2 < (x7.2.2.1.length : Int))) then
          (idx x7.2.2.1 x7.2.2.2.2.2).bind fun _ =>
          (x7.2.2.1[x7.2.2.2.2.2.toNat]?).bind fun e9 =>
          (sApplyEdit (GNotebook.mk x7.2.2.2.2.1) e9).bind fun r10 =>
          bif (r10.2 == 0) then
            (idx x7.2.2.1 x7.2.2.2.2.2).bind fun _ =>
            (x7.2.2.1[x7.2.2.2.2.2.toNat]?).bind fun e12 =>
            (gd (x7.2.2.2.1.length + [e12].length)).bind fun _ =>
            some (.inl (x7.1, x7.2.1, x7.2.2.1, x7.2.2.2.1 ++ [e12], r10.1.cells, w64 (x7.2.2.2.2.2 + 1)))
          else
            some (.inl (x7.1, x7.2.1, x7.2.2.1, x7.2.2.2.1, x7.2.2.2.2.1, w64 (x7.2.2.2.2.2 + 1)))
        else
          some (.inr (GNotebook.mk x7.2.1, x7.2.2.2.1))
      ) ([], r4.2.cells, r5.2, [], r4.2.cells, 0)
    else
      some (r4.2, r5.2)
  else
  (sL20Edits r3.1 r2.2 4).bind fun r13 =>
  (sL1Once r13.1 3).bind fun r14 =>
  bif (!r14.2) then
    loopD (fun (x15 : (List GCell) × (List GCell) × (List GEdit) × (List GEdit) × (List GCell) × Int) =>
      bif (decide (x15.2.2.2.2.2 < (x15.2.2.1.length : Int))) then
        (idx x15.2.2.1 x15.2.2.2.2.2).bind fun _ =>
        (x15.2.2.1[x15.2.2.2.2.2.toNat]?).bind fun e17 =>
        (sApplyEdit (GNotebook.mk x15.2.2.2.2.1) e17).bind fun r18 =>
        bif (r18.2 == 0) then
          (idx x15.2.2.1 x15.2.2.2.2.2).bind fun _ =>
          (x15.2.2.1[x15.2.2.2.2.2.toNat]?).bind fun e20 =>
          (gd (x15.2.2.2.1.length + [e20].length)).bind fun _ =>
          some (.inl (x15.1, x15.2.1, x15.2.2.1, x15.2.2.2.1 ++ [e20], r18.1.cells, w64 (x15.2.2.2.2.2 + 1)))
        else
          some (.inl (x15.1, x15.2.1, x15.2.2.1, x15.2.2.2.1, x15.2.2.2.2.1, w64 (x15.2.2.2.2.2 + 1)))
      else
        some (.inr (GNotebook.mk x15.2.1, x15.2.2.2.1))
    ) ([], r2.2.cells, r13.2, [], r2.2.cells, 0)
  else
    some (r2.2, r13.2)
noncomputable def sL39ArgsFS : Fsp := { fid := 55, ps := [⟨false, .list (.base .u8)⟩], rs := [⟨true, .base .notebook⟩, ⟨false, .list (.base .edit)⟩], ex := false, fn := fun x => sL39Args x }
noncomputable def sDrawApplyBatch (a : List Int) : Option (GNotebook × (List GEdit)) :=
  (sL39Args a).bind fun r1 =>
  some (r1.1, r1.2)
noncomputable def sDrawApplyBatchFS : Fsp := { fid := 20, ps := [⟨false, .list (.base .u8)⟩], rs := [⟨true, .base .notebook⟩, ⟨false, .list (.base .edit)⟩], ex := false, fn := fun x => sDrawApplyBatch x }
noncomputable def iCopyNotebook (a : GNotebook) : Option (GNotebook) :=
  (gd (0 + a.cells.length)).bind fun _ =>
  some (GNotebook.mk ([] ++ a.cells))
noncomputable def iCopyNotebookFS : Fsp := { fid := 56, ps := [⟨true, .base .notebook⟩], rs := [⟨true, .base .notebook⟩], ex := true, fn := fun x => iCopyNotebook x }
noncomputable def iCellIndex (a : GNotebook) (b : Int) : Option (Int) :=
  loopD (fun (x1 : Int × (List GCell) × Int × Int) =>
    bif (decide (x1.2.2.2 < x1.2.2.1)) then
      (idx x1.2.1 x1.2.2.2).bind fun e2 =>
      bif (e2.id == x1.1) then
        some (.inr (x1.2.2.2))
      else
        some (.inl (x1.1, x1.2.1, x1.2.2.1, w64 (x1.2.2.2 + 1)))
    else
      some (.inr ((-1)))
  ) (b, a.cells, (a.cells.length : Int), 0)
noncomputable def iCellIndexFS : Fsp := { fid := 111, ps := [⟨true, .base .notebook⟩, ⟨false, .base .int⟩], rs := [⟨false, .base .int⟩], ex := true, fn := fun x => iCellIndex x.1 x.2 }
noncomputable def iIsPrintable (a : Str) : Option (Bool) :=
  loopD (fun (x1 : Str × Int) =>
    bif (decide (x1.2 < (x1.1.length : Int))) then
      (idx x1.1 x1.2).bind fun c2 =>
      bif (decide ((c2.toNat : Int) < 32)) then
        some (.inr (false))
      else
        (idx x1.1 x1.2).bind fun c3 =>
        bif (decide ((c3.toNat : Int) > 126)) then
          some (.inr (false))
        else
          some (.inl (x1.1, w64 (x1.2 + 1)))
    else
      some (.inr ((decide ((x1.1.length : Int) ≤ 120))))
  ) (a, 0)
noncomputable def iIsPrintableFS : Fsp := { fid := 187, ps := [⟨false, .base .str⟩], rs := [⟨false, .base .bool⟩], ex := true, fn := fun x => iIsPrintable x }
noncomputable def iIsWord (a : Str) : Option (Bool) :=
  loopD (fun (x1 : Str × Int) =>
    bif (decide (x1.2 < (x1.1.length : Int))) then
      (idx x1.1 x1.2).bind fun c2 =>
      bif (decide ((c2.toNat : Int) ≥ 97)) then
        (idx x1.1 x1.2).bind fun c3 =>
        bif (!(decide ((c3.toNat : Int) ≤ 122))) then
          bif (x1.2 == 0) then
            some (.inr (false))
          else
            (idx x1.1 x1.2).bind fun c4 =>
            bif (decide ((c4.toNat : Int) < 48)) then
              some (.inr (false))
            else
              (idx x1.1 x1.2).bind fun c5 =>
              bif (decide ((c5.toNat : Int) > 57)) then
                some (.inr (false))
              else
                some (.inl (x1.1, w64 (x1.2 + 1)))
        else
          some (.inl (x1.1, w64 (x1.2 + 1)))
      else
      bif (x1.2 == 0) then
        some (.inr (false))
      else
        (idx x1.1 x1.2).bind fun c6 =>
        bif (decide ((c6.toNat : Int) < 48)) then
          some (.inr (false))
        else
          (idx x1.1 x1.2).bind fun c7 =>
          bif (decide ((c7.toNat : Int) > 57)) then
            some (.inr (false))
          else
            some (.inl (x1.1, w64 (x1.2 + 1)))
    else
      (
        (iWithin (x1.1.length : Int) 1 8).bind fun r8 =>
        some (r8)
      ).bind fun r => some (.inr r)
  ) (a, 0)
noncomputable def iIsWordFS : Fsp := { fid := 205, ps := [⟨false, .base .str⟩], rs := [⟨false, .base .bool⟩], ex := true, fn := fun x => iIsWord x }
noncomputable def iArgumentCount (a : Str) : Option (Int) :=
  bif (a == [99, 108, 111, 99, 107]) then
    some (0)
  else
  bif (a == [108, 101, 110]) then
    some (1)
  else
  bif (a == [115, 117, 109]) then
    some (1)
  else
  bif (a == [114, 111, 119, 115]) then
    some (1)
  else
  bif (a == [99, 104, 97, 110, 99, 101]) then
    some (1)
  else
  bif (a == [102, 105, 108, 101]) then
    some (1)
  else
  bif (a == [116, 97, 107, 101]) then
    some (2)
  else
  bif (a == [115, 107, 105, 112]) then
    some (2)
  else
  bif (a == [114, 97, 110, 103, 101]) then
    some (2)
  else
  bif (a == [110, 116, 104]) then
    some (2)
  else
  bif (a == [107, 101, 101, 112]) then
    some (2)
  else
  bif (a == [99, 111, 108, 117, 109, 110]) then
    some (2)
  else
  bif (a == [116, 97, 98, 108, 101]) then
    some (2)
  else
  bif (a == [119, 104, 101, 114, 101]) then
    some (3)
  else
    bif (a == [103, 114, 111, 117, 112]) then
      some (3)
    else
      bif (a == [106, 111, 105, 110]) then
        some (3)
      else
        bif (a == [97, 100, 100]) then
          some (4)
        else
          some ((-1))
noncomputable def iArgumentCountFS : Fsp := { fid := 230, ps := [⟨false, .base .str⟩], rs := [⟨false, .base .int⟩], ex := true, fn := fun x => iArgumentCount x }
noncomputable def iIsReserved (a : Str) : Option (Bool) :=
  bif (a == [108, 101, 116]) then
    some (true)
  else
  bif (a == [105, 110]) then
    some (true)
  else
  bif (a == [105, 102]) then
    some (true)
  else
  bif (a == [116, 104, 101, 110]) then
    some (true)
  else
  bif (a == [101, 108, 115, 101]) then
    some (true)
  else
    bif (a == [102, 111, 114]) then
      some (true)
    else
      bif (a == [100, 111]) then
        some (true)
      else
        (iArgumentCount a).bind fun r1 =>
        some ((decide (r1 ≥ 0)))
noncomputable def iIsReservedFS : Fsp := { fid := 206, ps := [⟨false, .base .str⟩], rs := [⟨false, .base .bool⟩], ex := true, fn := fun x => iIsReserved x }
noncomputable def iIsValidName (a : Str) : Option (Bool) :=
  (iIsWord a).bind fun r1 =>
  bif r1 then
    (iIsReserved a).bind fun r2 =>
    some ((!r2))
  else
    some (false)
noncomputable def iIsValidNameFS : Fsp := { fid := 188, ps := [⟨false, .base .str⟩], rs := [⟨false, .base .bool⟩], ex := true, fn := fun x => iIsValidName x }
noncomputable def iIsValidCell (a : GCell) : Option (Bool) :=
  (iWithin a.id 1 999).bind fun r1 =>
  bif (!r1) then
    some (false)
  else
  (iWithin a.version 1 999).bind fun r2 =>
  bif (!r2) then
    some (false)
  else
  (iIsPrintable a.code).bind fun r3 =>
  bif (!r3) then
    some (false)
  else
  bif (a.kind == 1) then
    bif (a.name == []) then
      some ((a.n == 0))
    else
      some (false)
  else
  bif (a.kind == 2) then
    (iIsValidName a.name).bind fun r4 =>
    bif r4 then
      some ((a.n == 0))
    else
      some (false)
  else
  bif (a.kind == 4) then
    (iIsValidName a.name).bind fun r5 =>
    bif r5 then
      some ((a.n == 0))
    else
      some (false)
  else
  bif (a.kind == 3) then
    (iIsValidName a.name).bind fun r6 =>
    bif r6 then
      bif (a.code == []) then
        (iWithin a.n 0 100).bind fun r7 =>
        some (r7)
      else
        some (false)
    else
      some (false)
  else
    some (false)
noncomputable def iIsValidCellFS : Fsp := { fid := 153, ps := [⟨true, .base .cell⟩], rs := [⟨false, .base .bool⟩], ex := true, fn := fun x => iIsValidCell x }
noncomputable def iIsValidNotebook (a : GNotebook) : Option (Bool) :=
  loopD (fun (x1 : (List GCell) × (List GCell) × Int × Int) =>
    bif (decide (x1.2.2.2 < x1.2.2.1)) then
      (idx x1.2.1 x1.2.2.2).bind fun e2 =>
      (iIsValidCell e2).bind fun r3 =>
      bif (!r3) then
        some (.inr (false))
      else
        (iCellIndex (GNotebook.mk x1.1) e2.id).bind fun r4 =>
        bif (r4 != x1.2.2.2) then
          some (.inr (false))
        else
          some (.inl (x1.1, x1.2.1, x1.2.2.1, w64 (x1.2.2.2 + 1)))
    else
      some (.inr ((decide ((x1.1.length : Int) ≤ 8))))
  ) (a.cells, a.cells, (a.cells.length : Int), 0)
noncomputable def iIsValidNotebookFS : Fsp := { fid := 103, ps := [⟨true, .base .notebook⟩], rs := [⟨false, .base .bool⟩], ex := true, fn := fun x => iIsValidNotebook x }
noncomputable def iInserted (a : List GCell) (b : Int) (c : GCell) : Option ((List GCell)) :=
  (eff.cutL a none (some (if (if (a.length : Int) < b then (a.length : Int) else b) > 0 then (if (a.length : Int) < b then (a.length : Int) else b) else 0))).bind fun r1 =>
  (gd (0 + r1.length)).bind fun _ =>
  (gd (([] ++ r1).length + [c].length)).bind fun _ =>
  (eff.cutL a (some (if (if (a.length : Int) < b then (a.length : Int) else b) > 0 then (if (a.length : Int) < b then (a.length : Int) else b) else 0)) none).bind fun r2 =>
  (gd ((([] ++ r1) ++ [c]).length + r2.length)).bind fun _ =>
  some ((([] ++ r1) ++ [c]) ++ r2)
noncomputable def iInsertedFS : Fsp := { fid := 154, ps := [⟨false, .list (.base .cell)⟩, ⟨false, .base .int⟩, ⟨true, .base .cell⟩], rs := [⟨false, .list (.base .cell)⟩], ex := true, fn := fun x => iInserted x.1 x.2.1 x.2.2 }
noncomputable def iRemoved (a : List GCell) (b : Int) : Option ((List GCell)) :=
  (eff.cutL a none (some b)).bind fun r1 =>
  (gd (0 + r1.length)).bind fun _ =>
  (eff.cutL a (some (w64 (b + 1))) none).bind fun r2 =>
  (gd (([] ++ r1).length + r2.length)).bind fun _ =>
  some (([] ++ r1) ++ r2)
noncomputable def iRemovedFS : Fsp := { fid := 155, ps := [⟨false, .list (.base .cell)⟩, ⟨false, .base .int⟩], rs := [⟨false, .list (.base .cell)⟩], ex := true, fn := fun x => iRemoved x.1 x.2 }
noncomputable def iChange (a : GNotebook) (b : GEdit) : Option (GNotebook × Int) :=
  (iCellIndex a b.cell.id).bind fun r1 =>
  bif (b.kind == 1) then
    (iIsValidCell b.cell).bind fun r2 =>
    bif (!r2) then
      some (a, 1)
    else
      bif (decide (r1 ≥ 0)) then
        some (a, 3)
      else
        bif (decide ((a.cells.length : Int) ≥ 8)) then
          some (a, 4)
        else
          (iInserted a.cells b.pos b.cell).bind fun r3 =>
          some (GNotebook.mk r3, 0)
  else
  bif (decide (r1 < 0)) then
    some (a, 2)
  else
  (idx a.cells r1).bind fun e4 =>
  bif (b.kind == 2) then
    (iRemoved a.cells r1).bind fun r5 =>
    some (GNotebook.mk r5, 0)
  else
  bif (b.kind == 3) then
    (iRemoved a.cells r1).bind fun r6 =>
    (iInserted r6 b.pos e4).bind fun r7 =>
    some (GNotebook.mk r7, 0)
  else
  bif (b.kind == 5) then
    bif (e4.kind != 3) then
      some (a, 5)
    else
      (iIsValidCell (GCell.mk e4.id e4.version e4.kind e4.name e4.code b.cell.n)).bind fun r8 =>
      bif (!r8) then
        some (a, 1)
      else
        (iCopyNotebook a).bind fun r9 =>
        (idx r9.cells r1).bind fun _ =>
        (r9.cells[r1.toNat]?).bind fun e11 =>
        some (GNotebook.mk (r9.cells.set r1.toNat (GCell.mk e4.id e4.version e4.kind e4.name e4.code b.cell.n)), 0)
  else
  bif (b.kind == 4) then
    bif (e4.kind == 3) then
      some (a, 5)
    else
    bif (b.kind == 6) then
      bif (e4.kind != 2) then
        some (a, 5)
      else
      bif (decide (e4.version ≥ 999)) then
        some (a, 6)
      else
      bif (b.kind == 4) then
        (iIsValidCell (GCell.mk e4.id (w64 (e4.version + 1)) e4.kind b.cell.name b.cell.code e4.n)).bind fun r12 =>
        bif (!r12) then
          some (a, 1)
        else
          (iCopyNotebook a).bind fun r13 =>
          (idx r13.cells r1).bind fun _ =>
          (r13.cells[r1.toNat]?).bind fun e15 =>
          some (GNotebook.mk (r13.cells.set r1.toNat (GCell.mk e4.id (w64 (e4.version + 1)) e4.kind b.cell.name b.cell.code e4.n)), 0)
      else
        (iIsValidCell (GCell.mk e4.id (w64 (e4.version + 1)) e4.kind e4.name e4.code e4.n)).bind fun r16 =>
        bif (!r16) then
          some (a, 1)
        else
          (iCopyNotebook a).bind fun r17 =>
          (idx r17.cells r1).bind fun _ =>
          (r17.cells[r1.toNat]?).bind fun e19 =>
          some (GNotebook.mk (r17.cells.set r1.toNat (GCell.mk e4.id (w64 (e4.version + 1)) e4.kind e4.name e4.code e4.n)), 0)
    else
    bif (decide (e4.version ≥ 999)) then
      some (a, 6)
    else
    bif (b.kind == 4) then
      (iIsValidCell (GCell.mk e4.id (w64 (e4.version + 1)) e4.kind b.cell.name b.cell.code e4.n)).bind fun r20 =>
      bif (!r20) then
        some (a, 1)
      else
        (iCopyNotebook a).bind fun r21 =>
        (idx r21.cells r1).bind fun _ =>
        (r21.cells[r1.toNat]?).bind fun e23 =>
        some (GNotebook.mk (r21.cells.set r1.toNat (GCell.mk e4.id (w64 (e4.version + 1)) e4.kind b.cell.name b.cell.code e4.n)), 0)
    else
      (iIsValidCell (GCell.mk e4.id (w64 (e4.version + 1)) e4.kind e4.name e4.code e4.n)).bind fun r24 =>
      bif (!r24) then
        some (a, 1)
      else
        (iCopyNotebook a).bind fun r25 =>
        (idx r25.cells r1).bind fun _ =>
        (r25.cells[r1.toNat]?).bind fun e27 =>
        some (GNotebook.mk (r25.cells.set r1.toNat (GCell.mk e4.id (w64 (e4.version + 1)) e4.kind e4.name e4.code e4.n)), 0)
  else
  bif (b.kind == 6) then
    bif (e4.kind != 2) then
      some (a, 5)
    else
    bif (decide (e4.version ≥ 999)) then
      some (a, 6)
    else
    bif (b.kind == 4) then
      (iIsValidCell (GCell.mk e4.id (w64 (e4.version + 1)) e4.kind b.cell.name b.cell.code e4.n)).bind fun r28 =>
      bif (!r28) then
        some (a, 1)
      else
        (iCopyNotebook a).bind fun r29 =>
        (idx r29.cells r1).bind fun _ =>
        (r29.cells[r1.toNat]?).bind fun e31 =>
        some (GNotebook.mk (r29.cells.set r1.toNat (GCell.mk e4.id (w64 (e4.version + 1)) e4.kind b.cell.name b.cell.code e4.n)), 0)
    else
      (iIsValidCell (GCell.mk e4.id (w64 (e4.version + 1)) e4.kind e4.name e4.code e4.n)).bind fun r32 =>
      bif (!r32) then
        some (a, 1)
      else
        (iCopyNotebook a).bind fun r33 =>
        (idx r33.cells r1).bind fun _ =>
        (r33.cells[r1.toNat]?).bind fun e35 =>
        some (GNotebook.mk (r33.cells.set r1.toNat (GCell.mk e4.id (w64 (e4.version + 1)) e4.kind e4.name e4.code e4.n)), 0)
  else
  bif (decide (e4.version ≥ 999)) then
    some (a, 6)
  else
  bif (b.kind == 4) then
    (iIsValidCell (GCell.mk e4.id (w64 (e4.version + 1)) e4.kind b.cell.name b.cell.code e4.n)).bind fun r36 =>
    bif (!r36) then
      some (a, 1)
    else
      (iCopyNotebook a).bind fun r37 =>
      (idx r37.cells r1).bind fun _ =>
      (r37.cells[r1.toNat]?).bind fun e39 =>
      some (GNotebook.mk (r37.cells.set r1.toNat (GCell.mk e4.id (w64 (e4.version + 1)) e4.kind b.cell.name b.cell.code e4.n)), 0)
  else
    (iIsValidCell (GCell.mk e4.id (w64 (e4.version + 1)) e4.kind e4.name e4.code e4.n)).bind fun r40 =>
    bif (!r40) then
      some (a, 1)
    else
      (iCopyNotebook a).bind fun r41 =>
      (idx r41.cells r1).bind fun _ =>
      (r41.cells[r1.toNat]?).bind fun e43 =>
      some (GNotebook.mk (r41.cells.set r1.toNat (GCell.mk e4.id (w64 (e4.version + 1)) e4.kind e4.name e4.code e4.n)), 0)
noncomputable def iChangeFS : Fsp := { fid := 104, ps := [⟨true, .base .notebook⟩, ⟨true, .base .edit⟩], rs := [⟨true, .base .notebook⟩, ⟨false, .base .int⟩], ex := false, fn := fun x => iChange x.1 x.2 }
noncomputable def iApplyEdit (a : GNotebook) (b : GEdit) : Option (GNotebook × Int) :=
  (iIsValidNotebook a).bind fun r1 =>
  bif (!r1) then
    (iCopyNotebook a).bind fun r2 =>
    some (r2, 1)
  else
    (iWithin b.kind 1 6).bind fun r3 =>
    bif (!r3) then
      (iCopyNotebook a).bind fun r4 =>
      some (r4, 1)
    else
      (iChange a b).bind fun r5 =>
      (iCopyNotebook r5.1).bind fun r6 =>
      some (r6, r5.2)
noncomputable def iApplyEditFS : Fsp := { fid := 57, ps := [⟨true, .base .notebook⟩, ⟨true, .base .edit⟩], rs := [⟨true, .base .notebook⟩, ⟨false, .base .int⟩], ex := true, fn := fun x => iApplyEdit x.1 x.2 }
noncomputable def iApplyBatch (a : GNotebook) (b : List GEdit) : Option (GNotebook × Int) :=
  (iCopyNotebook a).bind fun r1 =>
  loopD (fun (x2 : (List GCell) × (List GCell) × (List GCell) × (List GEdit) × Int × Int) =>
    bif (decide (x2.2.2.2.2.2 < x2.2.2.2.2.1)) then
      (idx x2.2.2.2.1 x2.2.2.2.2.2).bind fun e3 =>
      (iApplyEdit (GNotebook.mk x2.2.2.1) e3).bind fun r4 =>
      bif (r4.2 != 0) then
        (iCopyNotebook (GNotebook.mk x2.1)).bind fun r5 =>
        some (.inr (r5, x2.2.2.2.2.2))
      else
        some (.inl (x2.1, x2.2.1, r4.1.cells, x2.2.2.2.1, x2.2.2.2.2.1, w64 (x2.2.2.2.2.2 + 1)))
    else
      some (.inr (GNotebook.mk x2.2.2.1, (-1)))
  ) (a.cells, [], r1.cells, b, (b.length : Int), 0)
noncomputable def iApplyBatchFS : Fsp := { fid := 21, ps := [⟨true, .base .notebook⟩, ⟨false, .list (.base .edit)⟩], rs := [⟨true, .base .notebook⟩, ⟨false, .base .int⟩], ex := true, fn := fun x => iApplyBatch x.1 x.2 }
noncomputable def sApplyEdits (a : GNotebook) (b : List GEdit) : Option (GNotebook × (List Int)) :=
  (sL17Copy a).bind fun r1 =>
  loopD (fun (x2 : (List GEdit) × (List GCell) × (List GCell) × (List Int) × Int) =>
    bif (decide (x2.2.2.2.2 < (x2.1.length : Int))) then
      (idx x2.1 x2.2.2.2.2).bind fun e3 =>
      (sApplyEdit (GNotebook.mk x2.2.2.1) e3).bind fun r4 =>
      (gd (x2.2.2.2.1.length + [r4.2].length)).bind fun _ =>
      some (.inl (x2.1, x2.2.1, r4.1.cells, x2.2.2.2.1 ++ [r4.2], w64 (x2.2.2.2.2 + 1)))
    else
      some (.inr (GNotebook.mk x2.2.2.1, x2.2.2.2.1))
  ) (b, [], r1.cells, [], 0)
noncomputable def sApplyEditsFS : Fsp := { fid := 22, ps := [⟨true, .base .notebook⟩, ⟨false, .list (.base .edit)⟩], rs := [⟨true, .base .notebook⟩, ⟨false, .list (.base .int)⟩], ex := true, fn := fun x => sApplyEdits x.1 x.2 }
noncomputable def sEqualNotebook (a : GNotebook) (b : GNotebook) : Option (Bool) :=
  bif ((a.cells.length : Int) != (b.cells.length : Int)) then
    some (false)
  else
  loopD (fun (x1 : (List GCell) × (List GCell) × Int) =>
    bif (decide (x1.2.2 < (x1.1.length : Int))) then
      (idx x1.1 x1.2.2).bind fun e2 =>
      (idx x1.2.1 x1.2.2).bind fun e3 =>
      bif (!((e2.id == e3.id) && ((e2.version == e3.version) && ((e2.kind == e3.kind) && ((e2.name == e3.name) && ((e2.code == e3.code) && (e2.n == e3.n))))))) then
        some (.inr (false))
      else
        some (.inl (x1.1, x1.2.1, w64 (x1.2.2 + 1)))
    else
      some (.inr (true))
  ) (a.cells, b.cells, 0)
noncomputable def sEqualNotebookFS : Fsp := { fid := 23, ps := [⟨true, .base .notebook⟩, ⟨true, .base .notebook⟩], rs := [⟨false, .base .bool⟩], ex := true, fn := fun x => sEqualNotebook x.1 x.2 }
noncomputable def FnBatches (a : List Int) : Option (Bool) :=
  (big a).bind fun r1 =>
  bif r1 then
    some (true)
  else
  (sDrawApplyBatch a).bind fun r2 =>
  (iApplyBatch r2.1 r2.2).bind fun r3 =>
  (sApplyEdits r2.1 r2.2).bind fun r4 =>
  loopD (fun (x5 : (List GCell) × (List GCell) × Int × (List GCell) × (List Int) × Int × Int) =>
    bif (decide (x5.2.2.2.2.2.2 ≥ 0)) then
      (idx x5.2.2.2.2.1 x5.2.2.2.2.2.2).bind fun _ =>
      (x5.2.2.2.2.1[x5.2.2.2.2.2.2.toNat]?).bind fun e7 =>
      bif (e7 != 0) then
        some (.inl (x5.1, x5.2.1, x5.2.2.1, x5.2.2.2.1, x5.2.2.2.2.1, x5.2.2.2.2.2.2, w64 (x5.2.2.2.2.2.2 - 1)))
      else
        some (.inl (x5.1, x5.2.1, x5.2.2.1, x5.2.2.2.1, x5.2.2.2.2.1, x5.2.2.2.2.2.1, w64 (x5.2.2.2.2.2.2 - 1)))
    else
      (
        bif (x5.2.2.1 != x5.2.2.2.2.2.1) then
          some (false)
        else
          bif (decide (x5.2.2.1 ≥ 0)) then
            (sEqualNotebook (GNotebook.mk x5.2.1) (GNotebook.mk x5.1)).bind fun r8 =>
            some (r8)
          else
            (sEqualNotebook (GNotebook.mk x5.2.1) (GNotebook.mk x5.2.2.2.1)).bind fun r9 =>
            some (r9)
      ).bind fun r => some (.inr r)
  ) (r2.1.cells, r3.1.cells, r3.2, r4.1.cells, r4.2, (-1), w64 ((r4.2.length : Int) - 1))
noncomputable def FnBatchesFS : Fsp := { fid := 4, ps := [⟨false, .list (.base .u8)⟩], rs := [⟨false, .base .bool⟩], ex := true, fn := fun x => FnBatches x }
noncomputable def sDrawInverseBatch (a : List Int) : Option (GNotebook × (List GEdit)) :=
  (sL39Args a).bind fun r1 =>
  some (r1.1, r1.2)
noncomputable def sDrawInverseBatchFS : Fsp := { fid := 24, ps := [⟨false, .list (.base .u8)⟩], rs := [⟨true, .base .notebook⟩, ⟨false, .list (.base .edit)⟩], ex := false, fn := fun x => sDrawInverseBatch x }
noncomputable def iInverseEdit (a : GNotebook) (b : GEdit) : Option (GEdit × Bool) :=
  (iApplyEdit a b).bind fun r1 =>
  bif (r1.2 != 0) then
    some (GEdit.mk 0 0 (GCell.mk 0 0 0 [] [] 0), false)
  else
  (iCellIndex a b.cell.id).bind fun r2 =>
  bif (b.kind == 1) then
    some (GEdit.mk 2 0 (GCell.mk b.cell.id 0 0 [] [] 0), true)
  else
  bif (b.kind == 2) then
    (idx a.cells r2).bind fun e3 =>
    some (GEdit.mk 1 r2 e3, true)
  else
  bif (b.kind == 3) then
    some (GEdit.mk b.kind r2 (GCell.mk b.cell.id 0 0 [] [] 0), true)
  else
  bif (b.kind == 4) then
    (idx a.cells r2).bind fun e4 =>
    (idx a.cells r2).bind fun e5 =>
    some (GEdit.mk b.kind 0 (GCell.mk b.cell.id 0 0 e4.name e5.code 0), true)
  else
    bif (b.kind == 5) then
      (idx a.cells r2).bind fun e6 =>
      some (GEdit.mk b.kind 0 (GCell.mk b.cell.id 0 0 [] [] e6.n), true)
    else
      some (GEdit.mk b.kind 0 (GCell.mk b.cell.id 0 0 [] [] 0), true)
noncomputable def iInverseEditFS : Fsp := { fid := 60, ps := [⟨true, .base .notebook⟩, ⟨true, .base .edit⟩], rs := [⟨true, .base .edit⟩, ⟨false, .base .bool⟩], ex := true, fn := fun x => iInverseEdit x.1 x.2 }
noncomputable def iInverseBatch (a : GNotebook) (b : List GEdit) : Option ((List GEdit) × Bool) :=
  loopD (fun (x1 : (List GCell) × (List GEdit) × (List GEdit) × Int × Int) =>
    bif (decide (x1.2.2.2.2 < x1.2.2.2.1)) then
      (idx x1.2.2.1 x1.2.2.2.2).bind fun e2 =>
      (iInverseEdit (GNotebook.mk x1.1) e2).bind fun r3 =>
      bif (!r3.2) then
        some (.inr ([], false))
      else
        (iApplyEdit (GNotebook.mk x1.1) e2).bind fun r4 =>
        (gd ([r3.1].length + x1.2.1.length)).bind fun _ =>
        some (.inl (r4.1.cells, [r3.1] ++ x1.2.1, x1.2.2.1, x1.2.2.2.1, w64 (x1.2.2.2.2 + 1)))
    else
      some (.inr (x1.2.1, true))
  ) (a.cells, [], b, (b.length : Int), 0)
noncomputable def iInverseBatchFS : Fsp := { fid := 25, ps := [⟨true, .base .notebook⟩, ⟨false, .list (.base .edit)⟩], rs := [⟨false, .list (.base .edit)⟩, ⟨false, .base .bool⟩], ex := true, fn := fun x => iInverseBatch x.1 x.2 }
noncomputable def sApplyBatch (a : GNotebook) (b : List GEdit) : Option (GNotebook × Int) :=
  (sL17Copy a).bind fun r1 =>
  loopD (fun (x2 : (List GEdit) × (List GCell) × (List GCell) × (List GCell) × Int) =>
    bif (decide (x2.2.2.2.2 < (x2.1.length : Int))) then
      (idx x2.1 x2.2.2.2.2).bind fun e3 =>
      (sApplyEdit (GNotebook.mk x2.2.2.2.1) e3).bind fun r4 =>
      bif (r4.2 != 0) then
        (sL17Copy (GNotebook.mk x2.2.1)).bind fun r5 =>
        some (.inr (r5, x2.2.2.2.2))
      else
        some (.inl (x2.1, x2.2.1, x2.2.2.1, r4.1.cells, w64 (x2.2.2.2.2 + 1)))
    else
      some (.inr (GNotebook.mk x2.2.2.2.1, (-1)))
  ) (b, a.cells, [], r1.cells, 0)
noncomputable def sApplyBatchFS : Fsp := { fid := 26, ps := [⟨true, .base .notebook⟩, ⟨false, .list (.base .edit)⟩], rs := [⟨true, .base .notebook⟩, ⟨false, .base .int⟩], ex := true, fn := fun x => sApplyBatch x.1 x.2 }
noncomputable def sSameContent (a : GNotebook) (b : GNotebook) : Option (Bool) :=
  (sL17Copy a).bind fun r1 =>
  (sL17Copy b).bind fun r2 =>
  loopD (fun (x3 : (List GCell) × (List GCell) × Int) =>
    bif (decide (x3.2.2 < (x3.1.length : Int))) then
      (idx x3.1 x3.2.2).bind fun _ =>
      (x3.1[x3.2.2.toNat]?).bind fun e5 =>
      some (.inl (x3.1.set x3.2.2.toNat (GCell.mk e5.id 0 e5.kind e5.name e5.code e5.n), x3.2.1, w64 (x3.2.2 + 1)))
    else
      (
        loopD (fun (x6 : (List GCell) × (List GCell) × Int) =>
          bif (decide (x6.2.2 < (x6.2.1.length : Int))) then
            (idx x6.2.1 x6.2.2).bind fun _ =>
            (x6.2.1[x6.2.2.toNat]?).bind fun e8 =>
            some (.inl (x6.1, x6.2.1.set x6.2.2.toNat (GCell.mk e8.id 0 e8.kind e8.name e8.code e8.n), w64 (x6.2.2 + 1)))
          else
            (
              (sEqualNotebook (GNotebook.mk x6.1) (GNotebook.mk x6.2.1)).bind fun r9 =>
              some (r9)
            ).bind fun r => some (.inr r)
        ) (x3.1, x3.2.1, 0)
      ).bind fun r => some (.inr r)
  ) (r1.cells, r2.cells, 0)
noncomputable def sSameContentFS : Fsp := { fid := 27, ps := [⟨true, .base .notebook⟩, ⟨true, .base .notebook⟩], rs := [⟨false, .base .bool⟩], ex := true, fn := fun x => sSameContent x.1 x.2 }
noncomputable def iSameCell (a : List GCell) (b : List GCell) : Option (Bool) :=
  bif ((a.length : Int) != (b.length : Int)) then
    some (false)
  else
  loopD (fun (x1 : (List GCell) × (List GCell) × Int × Int) =>
    bif (decide (x1.2.2.2 < x1.2.2.1)) then
      (idx x1.1 x1.2.2.2).bind fun e2 =>
      (idx x1.2.1 x1.2.2.2).bind fun e3 =>
      bif (!((e2.id == e3.id) && ((e2.version == e3.version) && ((e2.kind == e3.kind) && ((e2.name == e3.name) && ((e2.code == e3.code) && (e2.n == e3.n))))))) then
        some (.inr (false))
      else
        some (.inl (x1.1, x1.2.1, x1.2.2.1, w64 (x1.2.2.2 + 1)))
    else
      some (.inr (true))
  ) (a, b, (a.length : Int), 0)
noncomputable def iSameCellFS : Fsp := { fid := 160, ps := [⟨false, .list (.base .cell)⟩, ⟨false, .list (.base .cell)⟩], rs := [⟨false, .base .bool⟩], ex := true, fn := fun x => iSameCell x.1 x.2 }
noncomputable def iEqualNotebook (a : GNotebook) (b : GNotebook) : Option (Bool) :=
  (iSameCell a.cells b.cells).bind fun r1 =>
  some (r1)
noncomputable def iEqualNotebookFS : Fsp := { fid := 112, ps := [⟨true, .base .notebook⟩, ⟨true, .base .notebook⟩], rs := [⟨false, .base .bool⟩], ex := true, fn := fun x => iEqualNotebook x.1 x.2 }
noncomputable def iUnversioned (a : GNotebook) : Option (GNotebook) :=
  (iCopyNotebook a).bind fun r1 =>
  loopD (fun (x2 : (List GCell) × (List GCell) × Int × Int) =>
    bif (decide (x2.2.2.2 < x2.2.2.1)) then
      (idx x2.2.1 x2.2.2.2).bind fun _ =>
      (x2.2.1[x2.2.2.2.toNat]?).bind fun e4 =>
      some (.inl (x2.1, x2.2.1.set x2.2.2.2.toNat (GCell.mk e4.id 0 e4.kind e4.name e4.code e4.n), x2.2.2.1, w64 (x2.2.2.2 + 1)))
    else
      some (.inr (GNotebook.mk x2.2.1))
  ) ([], r1.cells, (r1.cells.length : Int), 0)
noncomputable def iUnversionedFS : Fsp := { fid := 113, ps := [⟨true, .base .notebook⟩], rs := [⟨true, .base .notebook⟩], ex := true, fn := fun x => iUnversioned x }
noncomputable def iSameContent (a : GNotebook) (b : GNotebook) : Option (Bool) :=
  (iUnversioned a).bind fun r1 =>
  (iUnversioned b).bind fun r2 =>
  (iEqualNotebook r1 r2).bind fun r3 =>
  some (r3)
noncomputable def iSameContentFS : Fsp := { fid := 61, ps := [⟨true, .base .notebook⟩, ⟨true, .base .notebook⟩], rs := [⟨false, .base .bool⟩], ex := true, fn := fun x => iSameContent x.1 x.2 }
noncomputable def iIsNoChange (a : GNotebook) (b : List GEdit) : Option (Bool) :=
  (iApplyBatch a b).bind fun r1 =>
  bif (decide (r1.2 < 0)) then
    (iSameContent a r1.1).bind fun r2 =>
    some (r2)
  else
    some (false)
noncomputable def iIsNoChangeFS : Fsp := { fid := 28, ps := [⟨true, .base .notebook⟩, ⟨false, .list (.base .edit)⟩], rs := [⟨false, .base .bool⟩], ex := true, fn := fun x => iIsNoChange x.1 x.2 }
noncomputable def FnInverseBatches (a : List Int) : Option (Bool) :=
  (big a).bind fun r1 =>
  bif r1 then
    some (true)
  else
  (sDrawInverseBatch a).bind fun r2 =>
  (iInverseBatch r2.1 r2.2).bind fun r3 =>
  (iApplyBatch r2.1 r2.2).bind fun r4 =>
  (sApplyBatch r2.1 r2.2).bind fun r5 =>
  bif (r4.2 != r5.2) then
    some (false)
  else
  bif (!(r3.2 == (r4.2 == (-1)))) then
    some (false)
  else
  bif r3.2 then
    bif ((r3.1.length : Int) != (r2.2.length : Int)) then
      some (false)
    else
    bif (!r3.2) then
      some (((r3.1.length : Int) == 0))
    else
    (iApplyBatch r4.1 r3.1).bind fun r6 =>
    bif (decide (r6.2 ≥ 0)) then
      (sApplyEdits r4.1 r3.1).bind fun r7 =>
      (idx r7.2 r6.2).bind fun _ =>
      (r7.2[r6.2.toNat]?).bind fun e9 =>
      some ((e9 == 6))
    else
      (sSameContent r6.1 r2.1).bind fun r10 =>
      bif r10 then
        (gd (0 + r2.2.length)).bind fun _ =>
        (gd (([] ++ r2.2).length + r3.1.length)).bind fun _ =>
        (iIsNoChange r2.1 (([] ++ r2.2) ++ r3.1)).bind fun r11 =>
        some (r11)
      else
        some (false)
  else
  bif (!r3.2) then
    some (((r3.1.length : Int) == 0))
  else
  (iApplyBatch r4.1 r3.1).bind fun r12 =>
  bif (decide (r12.2 ≥ 0)) then
    (sApplyEdits r4.1 r3.1).bind fun r13 =>
    (idx r13.2 r12.2).bind fun _ =>
    (r13.2[r12.2.toNat]?).bind fun e15 =>
    some ((e15 == 6))
  else
    (sSameContent r12.1 r2.1).bind fun r16 =>
    bif r16 then
      (gd (0 + r2.2.length)).bind fun _ =>
      (gd (([] ++ r2.2).length + r3.1.length)).bind fun _ =>
      (iIsNoChange r2.1 (([] ++ r2.2) ++ r3.1)).bind fun r17 =>
      some (r17)
    else
      some (false)
noncomputable def FnInverseBatchesFS : Fsp := { fid := 5, ps := [⟨false, .list (.base .u8)⟩], rs := [⟨false, .base .bool⟩], ex := true, fn := fun x => FnInverseBatches x }
end Go.Proofs.Ytmadjfnpidahnaa
