/- What the functions compute, by gen.py. -/
import Derived.Test.YtikafaabbikflaaTabs
namespace Go.Proofs.Ytikafaabbikflaa
open Go.Abs Go.Proofs
set_option linter.unusedVariables false
abbrev siz {α : Type} [SizeOf α] (x : α) : Nat := SizeOf.sizeOf x
abbrev w64 (n : Int) : Int := IntKind.i64.wrap n
abbrev w8 (n : Int) : Int := IntKind.u8.wrap n
noncomputable def big (a : List Int) : Option (Bool) :=
  some ((decide ((a.length : Int) > 1048576)))
noncomputable def bigFS : Fsp := { fid := 11, ps := [⟨false, .list (.base .u8)⟩], rs := [⟨false, .base .bool⟩], ex := true, fn := fun x => big x }
noncomputable def sL1New (a : List Int) : Option (GCur) :=
  loopD (fun (x1 : (List Int) × Int × Int) =>
    bif (decide (x1.2.2 < (x1.1.length : Int))) then
      bif (decide (x1.2.2 < 4000)) then
        (idx x1.1 x1.2.2).bind fun e2 =>
        some (.inl (x1.1, w64 (((BitVec.ofInt 64 (w64 ((w64 ((w64 (x1.2.1 * 131)) + (w64 (e2)))) + 7)) &&& BitVec.ofInt 64 1073741823).toNat : Int)), w64 (x1.2.2 + 1)))
      else
        some (.inr (GCur.mk x1.1 0 x1.2.1))
    else
      some (.inr (GCur.mk x1.1 0 x1.2.1))
  ) (a, w64 (26583 + (a.length : Int)), 0)
noncomputable def sL1NewFS : Fsp := { fid := 69, ps := [⟨false, .list (.base .u8)⟩], rs := [⟨true, .base .cur⟩], ex := false, fn := fun x => sL1New x }
noncomputable def sL1Byte (a : GCur) : Option (GCur × Int) :=
  bif (decide (a.i < (a.b.length : Int))) then
    (idx a.b a.i).bind fun e1 =>
    some (GCur.mk a.b (w64 (a.i + 1)) (w64 ((w64 (a.h * 6364136223846793005)) + 1442695040888963407)), w64 (((BitVec.ofInt 64 (w64 ((w64 (((BitVec.ofInt 64 (w64 (((BitVec.ofInt 64 ((w64 ((w64 (a.h * 6364136223846793005)) + 1442695040888963407)).fdiv (2 ^ 33)) ^^^ BitVec.ofInt 64 ((w64 ((w64 (a.h * 6364136223846793005)) + 1442695040888963407)).fdiv (2 ^ 45))).toNat : Int))) &&& BitVec.ofInt 64 255).toNat : Int))) + (w64 (e1)))) &&& BitVec.ofInt 64 255).toNat : Int)))
  else
    some (GCur.mk a.b a.i (w64 ((w64 (a.h * 6364136223846793005)) + 1442695040888963407)), w64 (((BitVec.ofInt 64 (w64 (((BitVec.ofInt 64 ((w64 ((w64 (a.h * 6364136223846793005)) + 1442695040888963407)).fdiv (2 ^ 33)) ^^^ BitVec.ofInt 64 ((w64 ((w64 (a.h * 6364136223846793005)) + 1442695040888963407)).fdiv (2 ^ 45))).toNat : Int))) &&& BitVec.ofInt 64 255).toNat : Int)))
noncomputable def sL1ByteFS : Fsp := { fid := 135, ps := [⟨true, .base .cur⟩], rs := [⟨true, .base .cur⟩, ⟨false, .base .int⟩], ex := false, fn := fun x => sL1Byte x }
noncomputable def sL1Below (a : GCur) (b : Int) : Option (GCur × Int) :=
  bif (decide (b ≤ 0)) then
    some (a, 0)
  else
  bif (decide (b ≤ 256)) then
    (sL1Byte a).bind fun r1 =>
    (remI r1.2 b).bind fun q2 =>
    some (r1.1, q2)
  else
    (sL1Byte a).bind fun r3 =>
    (sL1Byte r3.1).bind fun r4 =>
    (sL1Byte r4.1).bind fun r5 =>
    (sL1Byte r5.1).bind fun r6 =>
    (remI (w64 ((w64 ((w64 ((w64 (r3.2 * 16777216)) + (w64 (r4.2 * 65536)))) + (w64 (r5.2 * 256)))) + r6.2)) b).bind fun q7 =>
    some (r6.1, q7)
noncomputable def sL1BelowFS : Fsp := { fid := 80, ps := [⟨true, .base .cur⟩, ⟨false, .base .int⟩], rs := [⟨true, .base .cur⟩, ⟨false, .base .int⟩], ex := false, fn := fun x => sL1Below x.1 x.2 }
noncomputable def sL1Pick (a : GCur) (b : List Str) : Option (GCur × Str) :=
  (sL1Below a (b.length : Int)).bind fun r1 =>
  (idx b r1.2).bind fun e2 =>
  some (r1.1, e2)
noncomputable def sL1PickFS : Fsp := { fid := 178, ps := [⟨true, .base .cur⟩, ⟨false, .list (.base .str)⟩], rs := [⟨true, .base .cur⟩, ⟨false, .base .str⟩], ex := false, fn := fun x => sL1Pick x.1 x.2 }
noncomputable def sL14Read (a : GCur) : Option (GCur × GRead) :=
  (sL1Below a 3).bind fun r1 =>
  (sL1Below r1.1 7).bind fun r2 =>
  (sL1Pick r2.1 ([[102], [103], [104], [122]] : List Str)).bind fun r3 =>
  (sL1Below r3.1 3).bind fun r4 =>
  some (r4.1, GRead.mk (w64 (1 + r1.2)) r2.2 r4.2 r3.2 (GVal.mk 0 0 0 [] [] [] []))
noncomputable def sL14ReadFS : Fsp := { fid := 127, ps := [⟨true, .base .cur⟩], rs := [⟨true, .base .cur⟩, ⟨true, .base .read⟩], ex := false, sh := true, fn := fun x => sL14Read x }
noncomputable def sNumberValue (a : Int) : Option (GVal) :=
  some (GVal.mk 1 a 0 [] [] [] [])
noncomputable def sNumberValueFS : Fsp := { fid := 128, ps := [⟨false, .base .int⟩], rs := [⟨true, .base .val⟩], ex := true, fn := fun x => sNumberValue x }
noncomputable def sL16Tape (a : GCur) : Option (GCur × (List GRead)) :=
  (sL1Below a 4).bind fun r1 =>
  loopD (fun (x2 : (List Int) × Int × Int × (List GRead) × Int × Int) =>
    bif (decide (x2.2.2.2.2.2 < x2.2.2.2.2.1)) then
      (sL14Read (GCur.mk x2.1 x2.2.1 x2.2.2.1)).bind fun r3 =>
      bif (r3.2.kind != 2) then
        bif (r3.2.kind != 3) then
          (sNumberValue (w64 (50 + x2.2.2.2.2.2))).bind fun r4 =>
          (gd (x2.2.2.2.1.length + ([GRead.mk r3.2.kind 0 r3.2.time [] (reVal r4)]).length)).bind fun _ =>
          some (.inl (r3.1.b, r3.1.i, r3.1.h, x2.2.2.2.1 ++ ([GRead.mk r3.2.kind 0 r3.2.time [] (reVal r4)]), x2.2.2.2.2.1, w64 (x2.2.2.2.2.2 + 1)))
        else
          (sNumberValue (w64 (50 + x2.2.2.2.2.2))).bind fun r5 =>
          (gd (x2.2.2.2.1.length + [GRead.mk r3.2.kind 0 r3.2.time r3.2.text (reVal r5)].length)).bind fun _ =>
          some (.inl (r3.1.b, r3.1.i, r3.1.h, x2.2.2.2.1 ++ [GRead.mk r3.2.kind 0 r3.2.time r3.2.text (reVal r5)], x2.2.2.2.2.1, w64 (x2.2.2.2.2.2 + 1)))
      else
        bif (r3.2.kind != 3) then
          (sNumberValue (w64 (50 + x2.2.2.2.2.2))).bind fun r6 =>
          (gd (x2.2.2.2.1.length + ([GRead.mk r3.2.kind r3.2.n r3.2.time [] (reVal r6)]).length)).bind fun _ =>
          some (.inl (r3.1.b, r3.1.i, r3.1.h, x2.2.2.2.1 ++ ([GRead.mk r3.2.kind r3.2.n r3.2.time [] (reVal r6)]), x2.2.2.2.2.1, w64 (x2.2.2.2.2.2 + 1)))
        else
          (sNumberValue (w64 (50 + x2.2.2.2.2.2))).bind fun r7 =>
          (gd (x2.2.2.2.1.length + [GRead.mk r3.2.kind r3.2.n r3.2.time r3.2.text (reVal r7)].length)).bind fun _ =>
          some (.inl (r3.1.b, r3.1.i, r3.1.h, x2.2.2.2.1 ++ [GRead.mk r3.2.kind r3.2.n r3.2.time r3.2.text (reVal r7)], x2.2.2.2.2.1, w64 (x2.2.2.2.2.2 + 1)))
    else
      some (.inr (GCur.mk x2.1 x2.2.1 x2.2.2.1, x2.2.2.2.1))
  ) (r1.1.b, r1.1.i, r1.1.h, [], r1.2, 0)
noncomputable def sL16TapeFS : Fsp := { fid := 70, ps := [⟨true, .base .cur⟩], rs := [⟨true, .base .cur⟩, ⟨false, .list (.base .read)⟩], ex := false, sh := true, fn := fun x => sL16Tape x }
noncomputable def sDrawMergeReads (a : List Int) : Option ((List GRead) × (List GRead)) :=
  (sL1New a).bind fun r1 =>
  (sL16Tape r1).bind fun r2 =>
  (sL16Tape r2.1).bind fun r3 =>
  some (r2.2, r3.2)
noncomputable def sDrawMergeReadsFS : Fsp := { fid := 12, ps := [⟨false, .list (.base .u8)⟩], rs := [⟨false, .list (.base .read)⟩, ⟨false, .list (.base .read)⟩], ex := false, sh := true, fn := fun x => sDrawMergeReads x }
noncomputable def iSameRead (a : GRead) (b : GRead) : Option (Bool) :=
  bif (a.kind == b.kind) then
    bif (a.n == b.n) then
      bif (a.text == b.text) then
        some ((a.time == b.time))
      else
        some (false)
    else
      some (false)
  else
    some (false)
noncomputable def iSameReadFS : Fsp := { fid := 74, ps := [⟨true, .base .read⟩, ⟨true, .base .read⟩], rs := [⟨false, .base .bool⟩], ex := true, fn := fun x => iSameRead x.1 x.2 }
noncomputable def iCopyRow (a : GRow) : Option (GRow) :=
  (gd (0 + a.cells.length)).bind fun _ =>
  (gd (0 + a.orig.length)).bind fun _ =>
  some (GRow.mk ([] ++ a.cells) ([] ++ a.orig))
noncomputable def iCopyRowFS : Fsp := { fid := 130, ps := [⟨true, .base .row⟩], rs := [⟨true, .base .row⟩], ex := true, fn := fun x => iCopyRow x }
noncomputable def iCopyValueB (riCopyValue : GVal → Option (GVal)) (riCopyValues : (List GVal) → Option ((List GVal))) (a : GVal) : Option (GVal) :=
  (riCopyValues a.list).bind fun r1 =>
  (gd (0 + a.columns.length)).bind fun _ =>
  loopD (fun (x2 : Int × Int × Int × Str × (List GVal) × (List Str) × (List GRow) × Int × Int × Int × Str × (List GVal) × (List Str) × (List GRow) × (List GRow) × Int × Int) =>
    bif (decide (x2.2.2.2.2.2.2.2.2.2.2.2.2.2.2.2.2 < x2.2.2.2.2.2.2.2.2.2.2.2.2.2.2.2.1)) then
      (idx x2.2.2.2.2.2.2.2.2.2.2.2.2.2.2.1 x2.2.2.2.2.2.2.2.2.2.2.2.2.2.2.2.2).bind fun e3 =>
      (iCopyRow e3).bind fun r4 =>
      (gd (x2.2.2.2.2.2.2.2.2.2.2.2.2.2.1.length + [r4].length)).bind fun _ =>
      some (.inl (x2.1, x2.2.1, x2.2.2.1, x2.2.2.2.1, x2.2.2.2.2.1, x2.2.2.2.2.2.1, x2.2.2.2.2.2.2.1, x2.2.2.2.2.2.2.2.1, x2.2.2.2.2.2.2.2.2.1, x2.2.2.2.2.2.2.2.2.2.1, x2.2.2.2.2.2.2.2.2.2.2.1, x2.2.2.2.2.2.2.2.2.2.2.2.1, x2.2.2.2.2.2.2.2.2.2.2.2.2.1, x2.2.2.2.2.2.2.2.2.2.2.2.2.2.1 ++ [r4], x2.2.2.2.2.2.2.2.2.2.2.2.2.2.2.1, x2.2.2.2.2.2.2.2.2.2.2.2.2.2.2.2.1, w64 (x2.2.2.2.2.2.2.2.2.2.2.2.2.2.2.2.2 + 1)))
    else
      some (.inr (GVal.mk x2.2.2.2.2.2.2.2.1 x2.2.2.2.2.2.2.2.2.1 x2.2.2.2.2.2.2.2.2.2.1 x2.2.2.2.2.2.2.2.2.2.2.1 x2.2.2.2.2.2.2.2.2.2.2.2.1 x2.2.2.2.2.2.2.2.2.2.2.2.2.1 x2.2.2.2.2.2.2.2.2.2.2.2.2.2.1))
  ) (0, 0, 0, [], [], [], [], a.kind, a.n, a.step, a.text, r1, [] ++ a.columns, [], a.rows, (a.rows.length : Int), 0)
noncomputable def iCopyValuesB (riCopyValue : GVal → Option (GVal)) (riCopyValues : (List GVal) → Option ((List GVal))) (a : List GVal) : Option ((List GVal)) :=
  loopD (fun (x1 : (List GVal) × (List GVal) × Int × Int) =>
    bif (decide (x1.2.2.2 < x1.2.2.1)) then
      (idx x1.2.1 x1.2.2.2).bind fun e2 =>
      (riCopyValue (reVal e2)).bind fun r3 =>
      (gd (x1.1.length + [reVal r3].length)).bind fun _ =>
      some (.inl (x1.1 ++ [reVal r3], x1.2.1, x1.2.2.1, w64 (x1.2.2.2 + 1)))
    else
      some (.inr (x1.1))
  ) ([], a, (a.length : Int), 0)
noncomputable def iCopyValueG : Nat → (GVal → Option (GVal)) × ((List GVal) → Option ((List GVal)))
  | 0 => (fun _ => none, fun _ => none)
  | n + 1 => (iCopyValueB (iCopyValueG n).1 (iCopyValueG n).2, iCopyValuesB (iCopyValueG n).1 (iCopyValueG n).2)
noncomputable def iCopyValue (a : GVal) : Option (GVal) := (iCopyValueG (siz a + 1)).1 a
noncomputable def iCopyValueFS : Fsp := { fid := 75, ps := [⟨true, .base .val⟩], rs := [⟨true, .base .val⟩], ex := true, fn := fun x => iCopyValue x }
noncomputable def iCopyValueFSN (n : Nat) : Fsp := { fid := 75, ps := [⟨true, .base .val⟩], rs := [⟨true, .base .val⟩], ex := true, fn := fun x => (iCopyValueG n).1 x }
noncomputable def iCopyValues (a : List GVal) : Option ((List GVal)) := (iCopyValueG (siz a + 1)).2 a
noncomputable def iCopyValuesFS : Fsp := { fid := 129, ps := [⟨false, .list (.base .val)⟩], rs := [⟨false, .list (.base .val)⟩], ex := true, fn := fun x => iCopyValues x }
noncomputable def iCopyValuesFSN (n : Nat) : Fsp := { fid := 129, ps := [⟨false, .list (.base .val)⟩], rs := [⟨false, .list (.base .val)⟩], ex := true, fn := fun x => (iCopyValueG n).2 x }
noncomputable def iFindRead (a : List GRead) (b : GRead) : Option (GVal × Bool) :=
  loopD (fun (x1 : Int × Int × Int × Str × Int × Int × Int × Str × (List GVal) × (List Str) × (List GRow) × Int × Int × Int × Str × (List GVal) × (List Str) × (List GRow) × (List GRead) × Int × Int) =>
    bif (decide (x1.2.2.2.2.2.2.2.2.2.2.2.2.2.2.2.2.2.2.2.2 < x1.2.2.2.2.2.2.2.2.2.2.2.2.2.2.2.2.2.2.2.1)) then
      (idx x1.2.2.2.2.2.2.2.2.2.2.2.2.2.2.2.2.2.2.1 x1.2.2.2.2.2.2.2.2.2.2.2.2.2.2.2.2.2.2.2.2).bind fun e2 =>
      (iSameRead (reRead e2) (GRead.mk x1.1 x1.2.1 x1.2.2.1 x1.2.2.2.1 (GVal.mk x1.2.2.2.2.1 x1.2.2.2.2.2.1 x1.2.2.2.2.2.2.1 x1.2.2.2.2.2.2.2.1 x1.2.2.2.2.2.2.2.2.1 x1.2.2.2.2.2.2.2.2.2.1 x1.2.2.2.2.2.2.2.2.2.2.1))).bind fun r3 =>
      bif r3 then
        (iCopyValue (reVal e2.result)).bind fun r4 =>
        some (.inr (reVal r4, true))
      else
        some (.inl (x1.1, x1.2.1, x1.2.2.1, x1.2.2.2.1, x1.2.2.2.2.1, x1.2.2.2.2.2.1, x1.2.2.2.2.2.2.1, x1.2.2.2.2.2.2.2.1, x1.2.2.2.2.2.2.2.2.1, x1.2.2.2.2.2.2.2.2.2.1, x1.2.2.2.2.2.2.2.2.2.2.1, x1.2.2.2.2.2.2.2.2.2.2.2.1, x1.2.2.2.2.2.2.2.2.2.2.2.2.1, x1.2.2.2.2.2.2.2.2.2.2.2.2.2.1, x1.2.2.2.2.2.2.2.2.2.2.2.2.2.2.1, x1.2.2.2.2.2.2.2.2.2.2.2.2.2.2.2.1, x1.2.2.2.2.2.2.2.2.2.2.2.2.2.2.2.2.1, x1.2.2.2.2.2.2.2.2.2.2.2.2.2.2.2.2.2.1, x1.2.2.2.2.2.2.2.2.2.2.2.2.2.2.2.2.2.2.1, x1.2.2.2.2.2.2.2.2.2.2.2.2.2.2.2.2.2.2.2.1, w64 (x1.2.2.2.2.2.2.2.2.2.2.2.2.2.2.2.2.2.2.2.2 + 1)))
    else
      some (.inr (GVal.mk 0 0 0 [] [] [] [], false))
  ) (b.kind, b.n, b.time, b.text, b.result.kind, b.result.n, b.result.step, b.result.text, b.result.list, b.result.columns, b.result.rows, 0, 0, 0, [], [], [], [], a, (a.length : Int), 0)
noncomputable def iFindReadFS : Fsp := { fid := 16, ps := [⟨false, .list (.base .read)⟩, ⟨true, .base .read⟩], rs := [⟨true, .base .val⟩, ⟨false, .base .bool⟩], ex := true, fn := fun x => iFindRead x.1 x.2 }
noncomputable def iCopyReads (a : List GRead) : Option ((List GRead)) :=
  loopD (fun (x1 : (List GRead) × (List GRead) × Int × Int) =>
    bif (decide (x1.2.2.2 < x1.2.2.1)) then
      (idx x1.2.1 x1.2.2.2).bind fun e2 =>
      (iCopyValue (reVal e2.result)).bind fun r3 =>
      (gd (x1.1.length + [GRead.mk e2.kind e2.n e2.time e2.text (reVal r3)].length)).bind fun _ =>
      some (.inl (x1.1 ++ [GRead.mk e2.kind e2.n e2.time e2.text (reVal r3)], x1.2.1, x1.2.2.1, w64 (x1.2.2.2 + 1)))
    else
      some (.inr (x1.1))
  ) ([], a, (a.length : Int), 0)
noncomputable def iCopyReadsFS : Fsp := { fid := 71, ps := [⟨false, .list (.base .read)⟩], rs := [⟨false, .list (.base .read)⟩], ex := true, fn := fun x => iCopyReads x }
noncomputable def iMergeReads (a : List GRead) (b : List GRead) : Option ((List GRead)) :=
  (iCopyReads a).bind fun r1 =>
  loopD (fun (x2 : (List GRead) × (List GRead) × Int × Int) =>
    bif (decide (x2.2.2.2 < x2.2.2.1)) then
      (idx x2.2.1 x2.2.2.2).bind fun e3 =>
      (iFindRead x2.1 (reRead e3)).bind fun r4 =>
      bif (!r4.2) then
        (iCopyReads [reRead e3]).bind fun r5 =>
        (gd (x2.1.length + r5.length)).bind fun _ =>
        some (.inl (x2.1 ++ r5, x2.2.1, x2.2.2.1, w64 (x2.2.2.2 + 1)))
      else
        some (.inl (x2.1, x2.2.1, x2.2.2.1, w64 (x2.2.2.2 + 1)))
    else
      some (.inr (x2.1))
  ) (r1, b, (b.length : Int), 0)
noncomputable def iMergeReadsFS : Fsp := { fid := 13, ps := [⟨false, .list (.base .read)⟩, ⟨false, .list (.base .read)⟩], rs := [⟨false, .list (.base .read)⟩], ex := true, fn := fun x => iMergeReads x.1 x.2 }
noncomputable def sEqualNotebook (a : GNotebook) (b : GNotebook) : Option (Bool) :=
  bif ((a.cells.length : Int) != (b.cells.length : Int)) then
    some (false)
  else
  loopD (fun (x1 : (List GCell) × (List GCell) × Int) =>
    bif (decide (x1.2.2 < (x1.1.length : Int))) then
      (idx x1.1 x1.2.2).bind fun e2 =>
      (idx x1.2.1 x1.2.2).bind fun e3 =>
      bif (!((e2.id == e3.id) && ((e2.version == e3.version) && ((e2.kind == e3.kind) && ((e2.name == e3.name) && ((e2.code == e3.code) && (e2.n == e3.n))))))) then
        some (.inr (false))
      else
        some (.inl (x1.1, x1.2.1, w64 (x1.2.2 + 1)))
    else
      some (.inr (true))
  ) (a.cells, b.cells, 0)
noncomputable def sEqualNotebookFS : Fsp := { fid := 45, ps := [⟨true, .base .notebook⟩, ⟨true, .base .notebook⟩], rs := [⟨false, .base .bool⟩], ex := true, fn := fun x => sEqualNotebook x.1 x.2 }
noncomputable def sL3Texts (a : List Str) (b : List Str) : Option (Bool) :=
  bif ((a.length : Int) != (b.length : Int)) then
    some (false)
  else
  loopD (fun (x1 : (List Str) × (List Str) × Int) =>
    bif (decide (x1.2.2 < (x1.1.length : Int))) then
      (idx x1.1 x1.2.2).bind fun e2 =>
      (idx x1.2.1 x1.2.2).bind fun e3 =>
      bif (!(e2 == e3)) then
        some (.inr (false))
      else
        some (.inl (x1.1, x1.2.1, w64 (x1.2.2 + 1)))
    else
      some (.inr (true))
  ) (a, b, 0)
noncomputable def sL3TextsFS : Fsp := { fid := 132, ps := [⟨false, .list (.base .str)⟩, ⟨false, .list (.base .str)⟩], rs := [⟨false, .base .bool⟩], ex := true, fn := fun x => sL3Texts x.1 x.2 }
noncomputable def sL1Ints (a : List Int) (b : List Int) : Option (Bool) :=
  bif ((a.length : Int) != (b.length : Int)) then
    some (false)
  else
  loopD (fun (x1 : (List Int) × (List Int) × Int) =>
    bif (decide (x1.2.2 < (x1.1.length : Int))) then
      (idx x1.1 x1.2.2).bind fun e2 =>
      (idx x1.2.1 x1.2.2).bind fun e3 =>
      bif (e2 != e3) then
        some (.inr (false))
      else
        some (.inl (x1.1, x1.2.1, w64 (x1.2.2 + 1)))
    else
      some (.inr (true))
  ) (a, b, 0)
noncomputable def sL1IntsFS : Fsp := { fid := 133, ps := [⟨false, .list (.base .int)⟩, ⟨false, .list (.base .int)⟩], rs := [⟨false, .base .bool⟩], ex := true, fn := fun x => sL1Ints x.1 x.2 }
noncomputable def sL3Origins (a : List GOrigin) (b : List GOrigin) : Option (Bool) :=
  bif ((a.length : Int) != (b.length : Int)) then
    some (false)
  else
  loopD (fun (x1 : (List GOrigin) × (List GOrigin) × Int) =>
    bif (decide (x1.2.2 < (x1.1.length : Int))) then
      (idx x1.1 x1.2.2).bind fun e2 =>
      (idx x1.2.1 x1.2.2).bind fun e3 =>
      bif (!((e2.cell == e3.cell) && (e2.row == e3.row))) then
        some (.inr (false))
      else
        some (.inl (x1.1, x1.2.1, w64 (x1.2.2 + 1)))
    else
      some (.inr (true))
  ) (a, b, 0)
noncomputable def sL3OriginsFS : Fsp := { fid := 134, ps := [⟨false, .list (.base .origin)⟩, ⟨false, .list (.base .origin)⟩], rs := [⟨false, .base .bool⟩], ex := true, fn := fun x => sL3Origins x.1 x.2 }
noncomputable def sL3SameB (rsL3Same : GVal → GVal → Bool → Option (Bool)) (a : GVal) (b : GVal) (c : Bool) : Option (Bool) :=
  bif (a.kind != b.kind) then
    some (false)
  else
  bif (a.n != b.n) then
    some (false)
  else
  bif (a.step != b.step) then
    some (false)
  else
  bif (!(a.text == b.text)) then
    some (false)
  else
  bif ((a.list.length : Int) != (b.list.length : Int)) then
    some (false)
  else
  (sL3Texts a.columns b.columns).bind fun r1 =>
  bif (!r1) then
    some (false)
  else
  bif ((a.rows.length : Int) != (b.rows.length : Int)) then
    some (false)
  else
  loopD (fun (x2 : Bool × Int × Int × Int × Str × (List GVal) × (List Str) × (List GRow) × Int × Int × Int × Str × (List GVal) × (List Str) × (List GRow) × Int) =>
    bif (decide (x2.2.2.2.2.2.2.2.2.2.2.2.2.2.2.2 < (x2.2.2.2.2.2.1.length : Int))) then
      (idx x2.2.2.2.2.2.1 x2.2.2.2.2.2.2.2.2.2.2.2.2.2.2.2).bind fun e3 =>
      (idx x2.2.2.2.2.2.2.2.2.2.2.2.2.1 x2.2.2.2.2.2.2.2.2.2.2.2.2.2.2.2).bind fun e4 =>
      (rsL3Same (reVal e3) (reVal e4) x2.1).bind fun r5 =>
      bif (!r5) then
        some (.inr (false))
      else
        some (.inl (x2.1, x2.2.1, x2.2.2.1, x2.2.2.2.1, x2.2.2.2.2.1, x2.2.2.2.2.2.1, x2.2.2.2.2.2.2.1, x2.2.2.2.2.2.2.2.1, x2.2.2.2.2.2.2.2.2.1, x2.2.2.2.2.2.2.2.2.2.1, x2.2.2.2.2.2.2.2.2.2.2.1, x2.2.2.2.2.2.2.2.2.2.2.2.1, x2.2.2.2.2.2.2.2.2.2.2.2.2.1, x2.2.2.2.2.2.2.2.2.2.2.2.2.2.1, x2.2.2.2.2.2.2.2.2.2.2.2.2.2.2.1, w64 (x2.2.2.2.2.2.2.2.2.2.2.2.2.2.2.2 + 1)))
    else
    (
      loopD (fun (x6 : Bool × Int × Int × Int × Str × (List GVal) × (List Str) × (List GRow) × Int × Int × Int × Str × (List GVal) × (List Str) × (List GRow) × Int) =>
        bif (decide (x6.2.2.2.2.2.2.2.2.2.2.2.2.2.2.2 < (x6.2.2.2.2.2.2.2.1.length : Int))) then
          (idx x6.2.2.2.2.2.2.2.1 x6.2.2.2.2.2.2.2.2.2.2.2.2.2.2.2).bind fun e7 =>
          (idx x6.2.2.2.2.2.2.2.2.2.2.2.2.2.2.1 x6.2.2.2.2.2.2.2.2.2.2.2.2.2.2.2).bind fun e8 =>
          (sL1Ints e7.cells e8.cells).bind fun r9 =>
          bif (!r9) then
            some (.inr (false))
          else
          bif x6.1 then
            (idx x6.2.2.2.2.2.2.2.1 x6.2.2.2.2.2.2.2.2.2.2.2.2.2.2.2).bind fun e10 =>
            (idx x6.2.2.2.2.2.2.2.2.2.2.2.2.2.2.1 x6.2.2.2.2.2.2.2.2.2.2.2.2.2.2.2).bind fun e11 =>
            (sL3Origins e10.orig e11.orig).bind fun r12 =>
            bif (!r12) then
              some (.inr (false))
            else
              some (.inl (x6.1, x6.2.1, x6.2.2.1, x6.2.2.2.1, x6.2.2.2.2.1, x6.2.2.2.2.2.1, x6.2.2.2.2.2.2.1, x6.2.2.2.2.2.2.2.1, x6.2.2.2.2.2.2.2.2.1, x6.2.2.2.2.2.2.2.2.2.1, x6.2.2.2.2.2.2.2.2.2.2.1, x6.2.2.2.2.2.2.2.2.2.2.2.1, x6.2.2.2.2.2.2.2.2.2.2.2.2.1, x6.2.2.2.2.2.2.2.2.2.2.2.2.2.1, x6.2.2.2.2.2.2.2.2.2.2.2.2.2.2.1, w64 (x6.2.2.2.2.2.2.2.2.2.2.2.2.2.2.2 + 1)))
          else
            some (.inl (x6.1, x6.2.1, x6.2.2.1, x6.2.2.2.1, x6.2.2.2.2.1, x6.2.2.2.2.2.1, x6.2.2.2.2.2.2.1, x6.2.2.2.2.2.2.2.1, x6.2.2.2.2.2.2.2.2.1, x6.2.2.2.2.2.2.2.2.2.1, x6.2.2.2.2.2.2.2.2.2.2.1, x6.2.2.2.2.2.2.2.2.2.2.2.1, x6.2.2.2.2.2.2.2.2.2.2.2.2.1, x6.2.2.2.2.2.2.2.2.2.2.2.2.2.1, x6.2.2.2.2.2.2.2.2.2.2.2.2.2.2.1, w64 (x6.2.2.2.2.2.2.2.2.2.2.2.2.2.2.2 + 1)))
        else
          some (.inr (true))
      ) (x2.1, x2.2.1, x2.2.2.1, x2.2.2.2.1, x2.2.2.2.2.1, x2.2.2.2.2.2.1, x2.2.2.2.2.2.2.1, x2.2.2.2.2.2.2.2.1, x2.2.2.2.2.2.2.2.2.1, x2.2.2.2.2.2.2.2.2.2.1, x2.2.2.2.2.2.2.2.2.2.2.1, x2.2.2.2.2.2.2.2.2.2.2.2.1, x2.2.2.2.2.2.2.2.2.2.2.2.2.1, x2.2.2.2.2.2.2.2.2.2.2.2.2.2.1, x2.2.2.2.2.2.2.2.2.2.2.2.2.2.2.1, 0)
    ).bind fun r => some (.inr r)
  ) (c, a.kind, a.n, a.step, a.text, a.list, a.columns, a.rows, b.kind, b.n, b.step, b.text, b.list, b.columns, b.rows, 0)
noncomputable def sL3SameG : Nat → (GVal → GVal → Bool → Option (Bool))
  | 0 => fun _ _ _ => none
  | n + 1 => sL3SameB (sL3SameG n)
noncomputable def sL3Same (a : GVal) (b : GVal) (c : Bool) : Option (Bool) := (sL3SameG (siz a + siz b + 1)) a b c
noncomputable def sL3SameFS : Fsp := { fid := 78, ps := [⟨true, .base .val⟩, ⟨true, .base .val⟩, ⟨false, .base .bool⟩], rs := [⟨false, .base .bool⟩], ex := true, fn := fun x => sL3Same x.1 x.2.1 x.2.2 }
noncomputable def sL3SameFSN (n : Nat) : Fsp := { fid := 78, ps := [⟨true, .base .val⟩, ⟨true, .base .val⟩, ⟨false, .base .bool⟩], rs := [⟨false, .base .bool⟩], ex := true, fn := fun x => (sL3SameG n) x.1 x.2.1 x.2.2 }
noncomputable def sEqualValue (a : GVal) (b : GVal) : Option (Bool) :=
  (sL3Same (reVal a) (reVal b) true).bind fun r1 =>
  some (r1)
noncomputable def sEqualValueFS : Fsp := { fid := 18, ps := [⟨true, .base .val⟩, ⟨true, .base .val⟩], rs := [⟨false, .base .bool⟩], ex := true, fn := fun x => sEqualValue x.1 x.2 }
noncomputable def sL16Same (a : GRead) (b : GRead) : Option (Bool) :=
  bif (a.kind == b.kind) then
    bif (a.n == b.n) then
      bif (a.text == b.text) then
        some ((a.time == b.time))
      else
        some (false)
    else
      some (false)
  else
    some (false)
noncomputable def sL16SameFS : Fsp := { fid := 76, ps := [⟨true, .base .read⟩, ⟨true, .base .read⟩], rs := [⟨false, .base .bool⟩], ex := true, fn := fun x => sL16Same x.1 x.2 }
noncomputable def sL41Same (a : List GRead) (b : List GRead) : Option (Bool) :=
  bif ((a.length : Int) != (b.length : Int)) then
    some (false)
  else
  loopD (fun (x1 : (List GRead) × (List GRead) × Int) =>
    bif (decide (x1.2.2 < (x1.1.length : Int))) then
      (idx x1.1 x1.2.2).bind fun e2 =>
      (idx x1.2.1 x1.2.2).bind fun e3 =>
      (sL16Same (reRead e2) (reRead e3)).bind fun r4 =>
      bif (!r4) then
        some (.inr (false))
      else
        (idx x1.1 x1.2.2).bind fun e5 =>
        (idx x1.2.1 x1.2.2).bind fun e6 =>
        (sEqualValue (reVal e5.result) (reVal e6.result)).bind fun r7 =>
        bif (!r7) then
          some (.inr (false))
        else
          some (.inl (x1.1, x1.2.1, w64 (x1.2.2 + 1)))
    else
      some (.inr (true))
  ) (a, b, 0)
noncomputable def sL41SameFS : Fsp := { fid := 179, ps := [⟨false, .list (.base .read)⟩, ⟨false, .list (.base .read)⟩], rs := [⟨false, .base .bool⟩], ex := true, fn := fun x => sL41Same x.1 x.2 }
noncomputable def sL42Tapes (a : List GTape) (b : List GTape) : Option (Bool) :=
  bif ((a.length : Int) != (b.length : Int)) then
    some (false)
  else
  loopD (fun (x1 : (List GTape) × (List GTape) × Int) =>
    bif (decide (x1.2.2 < (x1.1.length : Int))) then
      (idx x1.1 x1.2.2).bind fun e2 =>
      (idx x1.2.1 x1.2.2).bind fun e3 =>
      bif (e2.cell != e3.cell) then
        some (.inr (false))
      else
      (idx x1.1 x1.2.2).bind fun e4 =>
      (idx x1.2.1 x1.2.2).bind fun e5 =>
      bif (e4.version != e5.version) then
        some (.inr (false))
      else
        (idx x1.1 x1.2.2).bind fun e6 =>
        (idx x1.2.1 x1.2.2).bind fun e7 =>
        (sL41Same e6.reads e7.reads).bind fun r8 =>
        bif (!r8) then
          some (.inr (false))
        else
          some (.inl (x1.1, x1.2.1, w64 (x1.2.2 + 1)))
    else
      some (.inr (true))
  ) (a, b, 0)
noncomputable def sL42TapesFS : Fsp := { fid := 136, ps := [⟨false, .list (.base .tape)⟩, ⟨false, .list (.base .tape)⟩], rs := [⟨false, .base .bool⟩], ex := true, fn := fun x => sL42Tapes x.1 x.2 }
noncomputable def sEqualDocument (a : GDocument) (b : GDocument) : Option (Bool) :=
  (sEqualNotebook a.notebook b.notebook).bind fun r1 =>
  bif r1 then
    (sL42Tapes a.tapes b.tapes).bind fun r2 =>
    some (r2)
  else
    some (false)
noncomputable def sEqualDocumentFS : Fsp := { fid := 81, ps := [⟨true, .base .document⟩, ⟨true, .base .document⟩], rs := [⟨false, .base .bool⟩], ex := true, fn := fun x => sEqualDocument x.1 x.2 }
noncomputable def sameTapes (a : List GTape) (b : List GTape) : Option (Bool) :=
  (sEqualDocument (GDocument.mk (GNotebook.mk []) a []) (GDocument.mk (GNotebook.mk []) b [])).bind fun r1 =>
  some (r1)
noncomputable def sameTapesFS : Fsp := { fid := 21, ps := [⟨false, .list (.base .tape)⟩, ⟨false, .list (.base .tape)⟩], rs := [⟨false, .base .bool⟩], ex := true, fn := fun x => sameTapes x.1 x.2 }
noncomputable def sameReads (a : List GRead) (b : List GRead) : Option (Bool) :=
  (sameTapes [GTape.mk 0 0 a] [GTape.mk 0 0 b]).bind fun r1 =>
  some (r1)
noncomputable def sameReadsFS : Fsp := { fid := 14, ps := [⟨false, .list (.base .read)⟩, ⟨false, .list (.base .read)⟩], rs := [⟨false, .base .bool⟩], ex := true, fn := fun x => sameReads x.1 x.2 }
noncomputable def sL3Row (a : GRow) : Option (GRow) :=
  (gd (0 + a.cells.length)).bind fun _ =>
  (gd (0 + a.orig.length)).bind fun _ =>
  some (GRow.mk ([] ++ a.cells) ([] ++ a.orig))
noncomputable def sL3RowFS : Fsp := { fid := 131, ps := [⟨true, .base .row⟩], rs := [⟨true, .base .row⟩], ex := true, fn := fun x => sL3Row x }
noncomputable def sL3CopyB (rsL3Copy : GVal → Option (GVal)) (a : GVal) : Option (GVal) :=
  (gd (0 + a.columns.length)).bind fun _ =>
  loopD (fun (x1 : Int × Int × Int × Str × (List GVal) × (List Str) × (List GRow) × Int × Int × Int × Str × (List GVal) × (List Str) × (List GRow) × Int × Int × Int × Str × (List GVal) × (List Str) × (List GRow) × Int) =>
    bif (decide (x1.2.2.2.2.2.2.2.2.2.2.2.2.2.2.2.2.2.2.2.2.2 < (x1.2.2.2.2.1.length : Int))) then
      (idx x1.2.2.2.2.1 x1.2.2.2.2.2.2.2.2.2.2.2.2.2.2.2.2.2.2.2.2.2).bind fun e2 =>
      (rsL3Copy (reVal e2)).bind fun r3 =>
      (gd (x1.2.2.2.2.2.2.2.2.2.2.2.2.2.2.2.2.2.2.1.length + [reVal r3].length)).bind fun _ =>
      some (.inl (x1.1, x1.2.1, x1.2.2.1, x1.2.2.2.1, x1.2.2.2.2.1, x1.2.2.2.2.2.1, x1.2.2.2.2.2.2.1, x1.2.2.2.2.2.2.2.1, x1.2.2.2.2.2.2.2.2.1, x1.2.2.2.2.2.2.2.2.2.1, x1.2.2.2.2.2.2.2.2.2.2.1, x1.2.2.2.2.2.2.2.2.2.2.2.1, x1.2.2.2.2.2.2.2.2.2.2.2.2.1, x1.2.2.2.2.2.2.2.2.2.2.2.2.2.1, x1.2.2.2.2.2.2.2.2.2.2.2.2.2.2.1, x1.2.2.2.2.2.2.2.2.2.2.2.2.2.2.2.1, x1.2.2.2.2.2.2.2.2.2.2.2.2.2.2.2.2.1, x1.2.2.2.2.2.2.2.2.2.2.2.2.2.2.2.2.2.1, x1.2.2.2.2.2.2.2.2.2.2.2.2.2.2.2.2.2.2.1 ++ [reVal r3], x1.2.2.2.2.2.2.2.2.2.2.2.2.2.2.2.2.2.2.2.1, x1.2.2.2.2.2.2.2.2.2.2.2.2.2.2.2.2.2.2.2.2.1, w64 (x1.2.2.2.2.2.2.2.2.2.2.2.2.2.2.2.2.2.2.2.2.2 + 1)))
    else
      (
        loopD (fun (x4 : Int × Int × Int × Str × (List GVal) × (List Str) × (List GRow) × Int × Int × Int × Str × (List GVal) × (List Str) × (List GRow) × Int × Int × Int × Str × (List GVal) × (List Str) × (List GRow) × Int) =>
          bif (decide (x4.2.2.2.2.2.2.2.2.2.2.2.2.2.2.2.2.2.2.2.2.2 < (x4.2.2.2.2.2.2.1.length : Int))) then
            (idx x4.2.2.2.2.2.2.1 x4.2.2.2.2.2.2.2.2.2.2.2.2.2.2.2.2.2.2.2.2.2).bind fun e5 =>
            (sL3Row e5).bind fun r6 =>
            (gd (x4.2.2.2.2.2.2.2.2.2.2.2.2.2.2.2.2.2.2.2.2.1.length + [r6].length)).bind fun _ =>
            some (.inl (x4.1, x4.2.1, x4.2.2.1, x4.2.2.2.1, x4.2.2.2.2.1, x4.2.2.2.2.2.1, x4.2.2.2.2.2.2.1, x4.2.2.2.2.2.2.2.1, x4.2.2.2.2.2.2.2.2.1, x4.2.2.2.2.2.2.2.2.2.1, x4.2.2.2.2.2.2.2.2.2.2.1, x4.2.2.2.2.2.2.2.2.2.2.2.1, x4.2.2.2.2.2.2.2.2.2.2.2.2.1, x4.2.2.2.2.2.2.2.2.2.2.2.2.2.1, x4.2.2.2.2.2.2.2.2.2.2.2.2.2.2.1, x4.2.2.2.2.2.2.2.2.2.2.2.2.2.2.2.1, x4.2.2.2.2.2.2.2.2.2.2.2.2.2.2.2.2.1, x4.2.2.2.2.2.2.2.2.2.2.2.2.2.2.2.2.2.1, x4.2.2.2.2.2.2.2.2.2.2.2.2.2.2.2.2.2.2.1, x4.2.2.2.2.2.2.2.2.2.2.2.2.2.2.2.2.2.2.2.1, x4.2.2.2.2.2.2.2.2.2.2.2.2.2.2.2.2.2.2.2.2.1 ++ [r6], w64 (x4.2.2.2.2.2.2.2.2.2.2.2.2.2.2.2.2.2.2.2.2.2 + 1)))
          else
            some (.inr (GVal.mk x4.2.2.2.2.2.2.2.2.2.2.2.2.2.2.1 x4.2.2.2.2.2.2.2.2.2.2.2.2.2.2.2.1 x4.2.2.2.2.2.2.2.2.2.2.2.2.2.2.2.2.1 x4.2.2.2.2.2.2.2.2.2.2.2.2.2.2.2.2.2.1 x4.2.2.2.2.2.2.2.2.2.2.2.2.2.2.2.2.2.2.1 x4.2.2.2.2.2.2.2.2.2.2.2.2.2.2.2.2.2.2.2.1 x4.2.2.2.2.2.2.2.2.2.2.2.2.2.2.2.2.2.2.2.2.1))
        ) (x1.1, x1.2.1, x1.2.2.1, x1.2.2.2.1, x1.2.2.2.2.1, x1.2.2.2.2.2.1, x1.2.2.2.2.2.2.1, x1.2.2.2.2.2.2.2.1, x1.2.2.2.2.2.2.2.2.1, x1.2.2.2.2.2.2.2.2.2.1, x1.2.2.2.2.2.2.2.2.2.2.1, x1.2.2.2.2.2.2.2.2.2.2.2.1, x1.2.2.2.2.2.2.2.2.2.2.2.2.1, x1.2.2.2.2.2.2.2.2.2.2.2.2.2.1, x1.2.2.2.2.2.2.2.2.2.2.2.2.2.2.1, x1.2.2.2.2.2.2.2.2.2.2.2.2.2.2.2.1, x1.2.2.2.2.2.2.2.2.2.2.2.2.2.2.2.2.1, x1.2.2.2.2.2.2.2.2.2.2.2.2.2.2.2.2.2.1, x1.2.2.2.2.2.2.2.2.2.2.2.2.2.2.2.2.2.2.1, x1.2.2.2.2.2.2.2.2.2.2.2.2.2.2.2.2.2.2.2.1, x1.2.2.2.2.2.2.2.2.2.2.2.2.2.2.2.2.2.2.2.2.1, 0)
      ).bind fun r => some (.inr r)
  ) (a.kind, a.n, a.step, a.text, a.list, a.columns, a.rows, 0, 0, 0, [], [], [], [], a.kind, a.n, a.step, a.text, [], [] ++ a.columns, [], 0)
noncomputable def sL3CopyG : Nat → (GVal → Option (GVal))
  | 0 => fun _ => none
  | n + 1 => sL3CopyB (sL3CopyG n)
noncomputable def sL3Copy (a : GVal) : Option (GVal) := (sL3CopyG (siz a + 1)) a
noncomputable def sL3CopyFS : Fsp := { fid := 77, ps := [⟨true, .base .val⟩], rs := [⟨true, .base .val⟩], ex := true, fn := fun x => sL3Copy x }
noncomputable def sL3CopyFSN (n : Nat) : Fsp := { fid := 77, ps := [⟨true, .base .val⟩], rs := [⟨true, .base .val⟩], ex := true, fn := fun x => (sL3CopyG n) x }
noncomputable def sFindRead (a : List GRead) (b : GRead) : Option (GVal × Bool) :=
  loopD (fun (x1 : (List GRead) × Int × Int × Int × Str × Int × Int × Int × Str × (List GVal) × (List Str) × (List GRow) × Int × Int × Int × Str × (List GVal) × (List Str) × (List GRow) × Int) =>
    bif (decide (x1.2.2.2.2.2.2.2.2.2.2.2.2.2.2.2.2.2.2.2 < (x1.1.length : Int))) then
      (idx x1.1 x1.2.2.2.2.2.2.2.2.2.2.2.2.2.2.2.2.2.2.2).bind fun e2 =>
      (sL16Same (reRead e2) (GRead.mk x1.2.1 x1.2.2.1 x1.2.2.2.1 x1.2.2.2.2.1 (GVal.mk x1.2.2.2.2.2.1 x1.2.2.2.2.2.2.1 x1.2.2.2.2.2.2.2.1 x1.2.2.2.2.2.2.2.2.1 x1.2.2.2.2.2.2.2.2.2.1 x1.2.2.2.2.2.2.2.2.2.2.1 x1.2.2.2.2.2.2.2.2.2.2.2.1))).bind fun r3 =>
      bif r3 then
        (idx x1.1 x1.2.2.2.2.2.2.2.2.2.2.2.2.2.2.2.2.2.2.2).bind fun e4 =>
        (sL3Copy (reVal e4.result)).bind fun r5 =>
        some (.inr (reVal r5, true))
      else
        some (.inl (x1.1, x1.2.1, x1.2.2.1, x1.2.2.2.1, x1.2.2.2.2.1, x1.2.2.2.2.2.1, x1.2.2.2.2.2.2.1, x1.2.2.2.2.2.2.2.1, x1.2.2.2.2.2.2.2.2.1, x1.2.2.2.2.2.2.2.2.2.1, x1.2.2.2.2.2.2.2.2.2.2.1, x1.2.2.2.2.2.2.2.2.2.2.2.1, x1.2.2.2.2.2.2.2.2.2.2.2.2.1, x1.2.2.2.2.2.2.2.2.2.2.2.2.2.1, x1.2.2.2.2.2.2.2.2.2.2.2.2.2.2.1, x1.2.2.2.2.2.2.2.2.2.2.2.2.2.2.2.1, x1.2.2.2.2.2.2.2.2.2.2.2.2.2.2.2.2.1, x1.2.2.2.2.2.2.2.2.2.2.2.2.2.2.2.2.2.1, x1.2.2.2.2.2.2.2.2.2.2.2.2.2.2.2.2.2.2.1, w64 (x1.2.2.2.2.2.2.2.2.2.2.2.2.2.2.2.2.2.2.2 + 1)))
    else
      some (.inr (GVal.mk 0 0 0 [] [] [] [], false))
  ) (a, b.kind, b.n, b.time, b.text, b.result.kind, b.result.n, b.result.step, b.result.text, b.result.list, b.result.columns, b.result.rows, 0, 0, 0, [], [], [], [], 0)
noncomputable def sFindReadFS : Fsp := { fid := 17, ps := [⟨false, .list (.base .read)⟩, ⟨true, .base .read⟩], rs := [⟨true, .base .val⟩, ⟨false, .base .bool⟩], ex := true, fn := fun x => sFindRead x.1 x.2 }
noncomputable def sL16Read (a : GRead) : Option (GRead) :=
  (sL3Copy (reVal a.result)).bind fun r1 =>
  some (GRead.mk a.kind a.n a.time a.text (reVal r1))
noncomputable def sL16ReadFS : Fsp := { fid := 73, ps := [⟨true, .base .read⟩], rs := [⟨true, .base .read⟩], ex := true, fn := fun x => sL16Read x }
noncomputable def sL16Reads (a : List GRead) : Option ((List GRead)) :=
  loopD (fun (x1 : (List GRead) × (List GRead) × Int) =>
    bif (decide (x1.2.2 < (x1.1.length : Int))) then
      (idx x1.1 x1.2.2).bind fun e2 =>
      (sL16Read (reRead e2)).bind fun r3 =>
      (gd (x1.2.1.length + [reRead r3].length)).bind fun _ =>
      some (.inl (x1.1, x1.2.1 ++ [reRead r3], w64 (x1.2.2 + 1)))
    else
      some (.inr (x1.2.1))
  ) (a, [], 0)
noncomputable def sL16ReadsFS : Fsp := { fid := 72, ps := [⟨false, .list (.base .read)⟩], rs := [⟨false, .list (.base .read)⟩], ex := true, fn := fun x => sL16Reads x }
noncomputable def sMergeReads (a : List GRead) (b : List GRead) : Option ((List GRead)) :=
  (sL16Reads a).bind fun r1 =>
  loopD (fun (x2 : (List GRead) × (List GRead) × Int) =>
    bif (decide (x2.2.2 < (x2.1.length : Int))) then
      (idx x2.1 x2.2.2).bind fun e3 =>
      (sFindRead x2.2.1 (reRead e3)).bind fun r4 =>
      bif (!r4.2) then
        (idx x2.1 x2.2.2).bind fun e5 =>
        (sL16Read (reRead e5)).bind fun r6 =>
        (gd (x2.2.1.length + [reRead r6].length)).bind fun _ =>
        some (.inl (x2.1, x2.2.1 ++ [reRead r6], w64 (x2.2.2 + 1)))
      else
        some (.inl (x2.1, x2.2.1, w64 (x2.2.2 + 1)))
    else
      some (.inr (x2.2.1))
  ) (b, r1, 0)
noncomputable def sMergeReadsFS : Fsp := { fid := 15, ps := [⟨false, .list (.base .read)⟩, ⟨false, .list (.base .read)⟩], rs := [⟨false, .list (.base .read)⟩], ex := true, fn := fun x => sMergeReads x.1 x.2 }
noncomputable def FnTapes (a : List Int) : Option (Bool) :=
  (big a).bind fun r1 =>
  bif r1 then
    some (true)
  else
  (sDrawMergeReads a).bind fun r2 =>
  (iMergeReads r2.1 r2.2).bind fun r3 =>
  (sMergeReads r2.1 r2.2).bind fun r4 =>
  (sameReads r3 r4).bind fun r5 =>
  bif (!r5) then
    some (false)
  else
  (iMergeReads r3 r2.2).bind fun r6 =>
  (sameReads r6 r3).bind fun r7 =>
  bif (!r7) then
    some (false)
  else
  (iMergeReads r3 r2.1).bind fun r8 =>
  (sameReads r8 r3).bind fun r9 =>
  bif (!r9) then
    some (false)
  else
  loopD (fun (x10 : (List GRead) × (List GRead) × (List GRead) × Int) =>
    bif (decide (x10.2.2.2 < (x10.2.1.length : Int))) then
      (idx x10.2.1 x10.2.2.2).bind fun _ =>
      (x10.2.1[x10.2.2.2.toNat]?).bind fun e12 =>
      (iFindRead x10.2.2.1 (reRead e12)).bind fun r13 =>
      (idx x10.2.1 x10.2.2.2).bind fun _ =>
      (x10.2.1[x10.2.2.2.toNat]?).bind fun e15 =>
      (sFindRead x10.1 (reRead e15)).bind fun r16 =>
      bif (!r13.2) then
        some (.inr (false))
      else
        bif r16.2 then
          (sEqualValue (reVal r13.1) (reVal r16.1)).bind fun r17 =>
          bif (!r17) then
            some (.inr (false))
          else
            some (.inl (x10.1, x10.2.1, x10.2.2.1, w64 (x10.2.2.2 + 1)))
        else
          some (.inl (x10.1, x10.2.1, x10.2.2.1, w64 (x10.2.2.2 + 1)))
    else
      some (.inr (true))
  ) (r2.1, r2.2, r3, 0)
noncomputable def FnTapesFS : Fsp := { fid := 3, ps := [⟨false, .list (.base .u8)⟩], rs := [⟨false, .base .bool⟩], ex := true, fn := fun x => FnTapes x }
noncomputable def sL26At (a : List GTape) (b : Int) (c : Int) : Option (Int) :=
  loopD (fun (x1 : (List GTape) × Int × Int × Int) =>
    bif (decide (x1.2.2.2 < (x1.1.length : Int))) then
      (idx x1.1 x1.2.2.2).bind fun e2 =>
      bif (e2.cell == x1.2.1) then
        (idx x1.1 x1.2.2.2).bind fun e3 =>
        bif (e3.version == x1.2.2.1) then
          some (.inr (x1.2.2.2))
        else
          some (.inl (x1.1, x1.2.1, x1.2.2.1, w64 (x1.2.2.2 + 1)))
      else
        some (.inl (x1.1, x1.2.1, x1.2.2.1, w64 (x1.2.2.2 + 1)))
    else
      some (.inr ((-1)))
  ) (a, b, c, 0)
noncomputable def sL26AtFS : Fsp := { fid := 82, ps := [⟨false, .list (.base .tape)⟩, ⟨false, .base .int⟩, ⟨false, .base .int⟩], rs := [⟨false, .base .int⟩], ex := true, fn := fun x => sL26At x.1 x.2.1 x.2.2 }
noncomputable def sL26Copy (a : List GTape) : Option ((List GTape)) :=
  loopD (fun (x1 : (List GTape) × (List GTape) × Int) =>
    bif (decide (x1.2.2 < (x1.1.length : Int))) then
      (idx x1.1 x1.2.2).bind fun e2 =>
      (idx x1.1 x1.2.2).bind fun e3 =>
      (idx x1.1 x1.2.2).bind fun e4 =>
      (sL16Reads e4.reads).bind fun r5 =>
      (gd (x1.2.1.length + [GTape.mk e2.cell e3.version r5].length)).bind fun _ =>
      some (.inl (x1.1, x1.2.1 ++ [GTape.mk e2.cell e3.version r5], w64 (x1.2.2 + 1)))
    else
      some (.inr (x1.2.1))
  ) (a, [], 0)
noncomputable def sL26CopyFS : Fsp := { fid := 86, ps := [⟨false, .list (.base .tape)⟩], rs := [⟨false, .list (.base .tape)⟩], ex := true, fn := fun x => sL26Copy x }
noncomputable def sL26Before (a : GTape) (b : GTape) : Option (Bool) :=
  bif (decide (a.cell < b.cell)) then
    some (true)
  else
    bif (a.cell == b.cell) then
      some ((decide (a.version < b.version)))
    else
      some (false)
noncomputable def sL26BeforeFS : Fsp := { fid := 87, ps := [⟨true, .base .tape⟩, ⟨true, .base .tape⟩], rs := [⟨false, .base .bool⟩], ex := true, fn := fun x => sL26Before x.1 x.2 }
noncomputable def sPutTape (a : List GTape) (b : Int) (c : Int) (d : List GRead) : Option ((List GTape)) :=
  (sL26Copy a).bind fun r1 =>
  (sL26At a b c).bind fun r2 =>
  bif (decide (r2 ≥ 0)) then
    (idx r1 r2).bind fun _ =>
    (r1[r2.toNat]?).bind fun e4 =>
    (sMergeReads e4.reads d).bind fun r5 =>
    (idx r1 r2).bind fun _ =>
    (r1[r2.toNat]?).bind fun e7 =>
    some (r1.set r2.toNat (GTape.mk e7.cell e7.version r5))
  else
  bif ((d.length : Int) == 0) then
    some (r1)
  else
  (sMergeReads [] d).bind fun r8 =>
  loopD (fun (x9 : (List GTape) × Int × Int × (List GRead) × Int) =>
    bif (decide (x9.2.2.2.2 < (x9.1.length : Int))) then
      (idx x9.1 x9.2.2.2.2).bind fun _ =>
      (x9.1[x9.2.2.2.2.toNat]?).bind fun e11 =>
      (sL26Before (GTape.mk x9.2.1 x9.2.2.1 x9.2.2.2.1) e11).bind fun r12 =>
      bif (!r12) then
        some (.inl (x9.1, x9.2.1, x9.2.2.1, x9.2.2.2.1, w64 (x9.2.2.2.2 + 1)))
      else
        (
          (eff.cutL x9.1 none (some x9.2.2.2.2)).bind fun r13 =>
          (gd (0 + r13.length)).bind fun _ =>
          (gd (([] ++ r13).length + [GTape.mk x9.2.1 x9.2.2.1 x9.2.2.2.1].length)).bind fun _ =>
          (eff.cutL x9.1 (some x9.2.2.2.2) none).bind fun r14 =>
          (gd ((([] ++ r13) ++ [GTape.mk x9.2.1 x9.2.2.1 x9.2.2.2.1]).length + r14.length)).bind fun _ =>
          some ((([] ++ r13) ++ [GTape.mk x9.2.1 x9.2.2.1 x9.2.2.2.1]) ++ r14)
        ).bind fun r => some (.inr r)
    else
      (
        (eff.cutL x9.1 none (some x9.2.2.2.2)).bind fun r15 =>
        (gd (0 + r15.length)).bind fun _ =>
        (gd (([] ++ r15).length + [GTape.mk x9.2.1 x9.2.2.1 x9.2.2.2.1].length)).bind fun _ =>
        (eff.cutL x9.1 (some x9.2.2.2.2) none).bind fun r16 =>
        (gd ((([] ++ r15) ++ [GTape.mk x9.2.1 x9.2.2.1 x9.2.2.2.1]).length + r16.length)).bind fun _ =>
        some ((([] ++ r15) ++ [GTape.mk x9.2.1 x9.2.2.1 x9.2.2.2.1]) ++ r16)
      ).bind fun r => some (.inr r)
  ) (r1, b, c, r8, 0)
noncomputable def sPutTapeFS : Fsp := { fid := 27, ps := [⟨false, .list (.base .tape)⟩, ⟨false, .base .int⟩, ⟨false, .base .int⟩, ⟨false, .list (.base .read)⟩], rs := [⟨false, .list (.base .tape)⟩], ex := false, sh := true, fn := fun x => sPutTape x.1 x.2.1 x.2.2.1 x.2.2.2 }
noncomputable def sL1Once (a : GCur) (b : Int) : Option (GCur × Bool) :=
  (sL1Below a b).bind fun r1 =>
  some (r1.1, (r1.2 == 0))
noncomputable def sL1OnceFS : Fsp := { fid := 89, ps := [⟨true, .base .cur⟩, ⟨false, .base .int⟩], rs := [⟨true, .base .cur⟩, ⟨false, .base .bool⟩], ex := false, fn := fun x => sL1Once x.1 x.2 }
noncomputable def sL26Draw (a : GCur) : Option (GCur × (List GTape)) :=
  (sL1Below a 5).bind fun r1 =>
  loopD (fun (x2 : (List Int) × Int × Int × (List GTape) × Int × Int) =>
    bif (decide (x2.2.2.2.2.2 < x2.2.2.2.2.1)) then
      (sL1Below (GCur.mk x2.1 x2.2.1 x2.2.2.1) 5).bind fun r3 =>
      (sL1Below r3.1 3).bind fun r4 =>
      (sL16Tape r4.1).bind fun r5 =>
      (sPutTape x2.2.2.2.1 (w64 (1 + r3.2)) (w64 (1 + r4.2)) r5.2).bind fun r6 =>
      some (.inl (r5.1.b, r5.1.i, r5.1.h, r6, x2.2.2.2.2.1, w64 (x2.2.2.2.2.2 + 1)))
    else
    (
      bif (decide ((x2.2.2.2.1.length : Int) > 1)) then
        (sL1Once (GCur.mk x2.1 x2.2.1 x2.2.2.1) 8).bind fun r7 =>
        bif r7.2 then
          (idx x2.2.2.2.1 0).bind fun _ =>
          (x2.2.2.2.1[0]?).bind fun e9 =>
          some (r7.1, x2.2.2.2.1.set 0 (GTape.mk 7 e9.version e9.reads))
        else
          some (r7.1, x2.2.2.2.1)
      else
        some (GCur.mk x2.1 x2.2.1 x2.2.2.1, x2.2.2.2.1)
    ).bind fun r => some (.inr r)
  ) (r1.1.b, r1.1.i, r1.1.h, [], r1.2, 0)
noncomputable def sL26DrawFS : Fsp := { fid := 79, ps := [⟨true, .base .cur⟩], rs := [⟨true, .base .cur⟩, ⟨false, .list (.base .tape)⟩], ex := false, sh := true, fn := fun x => sL26Draw x }
noncomputable def sDrawCopyTape (a : List Int) : Option ((List GTape) × Int × Int × Int) :=
  (sL1New a).bind fun r1 =>
  (sL26Draw r1).bind fun r2 =>
  (sL1Below r2.1 6).bind fun r3 =>
  (sL1Below r3.1 3).bind fun r4 =>
  (sL1Below r4.1 4).bind fun r5 =>
  some (r2.2, w64 (1 + r3.2), w64 (1 + r4.2), w64 (1 + r5.2))
noncomputable def sDrawCopyTapeFS : Fsp := { fid := 19, ps := [⟨false, .list (.base .u8)⟩], rs := [⟨false, .list (.base .tape)⟩, ⟨false, .base .int⟩, ⟨false, .base .int⟩, ⟨false, .base .int⟩], ex := false, sh := true, fn := fun x => sDrawCopyTape x }
noncomputable def iTapeIndex (a : List GTape) (b : Int) (c : Int) : Option (Int) :=
  loopD (fun (x1 : Int × Int × (List GTape) × Int × Int) =>
    bif (decide (x1.2.2.2.2 < x1.2.2.2.1)) then
      (idx x1.2.2.1 x1.2.2.2.2).bind fun e2 =>
      bif (e2.cell == x1.1) then
        bif (e2.version == x1.2.1) then
          some (.inr (x1.2.2.2.2))
        else
          some (.inl (x1.1, x1.2.1, x1.2.2.1, x1.2.2.2.1, w64 (x1.2.2.2.2 + 1)))
      else
        some (.inl (x1.1, x1.2.1, x1.2.2.1, x1.2.2.2.1, w64 (x1.2.2.2.2 + 1)))
    else
      some (.inr ((-1)))
  ) (b, c, a, (a.length : Int), 0)
noncomputable def iTapeIndexFS : Fsp := { fid := 83, ps := [⟨false, .list (.base .tape)⟩, ⟨false, .base .int⟩, ⟨false, .base .int⟩], rs := [⟨false, .base .int⟩], ex := true, fn := fun x => iTapeIndex x.1 x.2.1 x.2.2 }
noncomputable def iTapeOf (a : List GTape) (b : Int) (c : Int) : Option ((List GRead)) :=
  (iTapeIndex a b c).bind fun r1 =>
  bif (decide (r1 < 0)) then
    some ([])
  else
    (idx a r1).bind fun e2 =>
    (iCopyReads e2.reads).bind fun r3 =>
    some (r3)
noncomputable def iTapeOfFS : Fsp := { fid := 24, ps := [⟨false, .list (.base .tape)⟩, ⟨false, .base .int⟩, ⟨false, .base .int⟩], rs := [⟨false, .list (.base .read)⟩], ex := true, fn := fun x => iTapeOf x.1 x.2.1 x.2.2 }
noncomputable def iCopyTapes (a : List GTape) : Option ((List GTape)) :=
  loopD (fun (x1 : (List GTape) × (List GTape) × Int × Int) =>
    bif (decide (x1.2.2.2 < x1.2.2.1)) then
      (idx x1.2.1 x1.2.2.2).bind fun e2 =>
      (iCopyReads e2.reads).bind fun r3 =>
      (gd (x1.1.length + [GTape.mk e2.cell e2.version r3].length)).bind fun _ =>
      some (.inl (x1.1 ++ [GTape.mk e2.cell e2.version r3], x1.2.1, x1.2.2.1, w64 (x1.2.2.2 + 1)))
    else
      some (.inr (x1.1))
  ) ([], a, (a.length : Int), 0)
noncomputable def iCopyTapesFS : Fsp := { fid := 84, ps := [⟨false, .list (.base .tape)⟩], rs := [⟨false, .list (.base .tape)⟩], ex := true, fn := fun x => iCopyTapes x }
noncomputable def iTapeBefore (a : GTape) (b : GTape) : Option (Bool) :=
  bif (decide (a.cell < b.cell)) then
    some (true)
  else
    bif (a.cell == b.cell) then
      some ((decide (a.version < b.version)))
    else
      some (false)
noncomputable def iTapeBeforeFS : Fsp := { fid := 85, ps := [⟨true, .base .tape⟩, ⟨true, .base .tape⟩], rs := [⟨false, .base .bool⟩], ex := true, fn := fun x => iTapeBefore x.1 x.2 }
noncomputable def iPutTape (a : List GTape) (b : Int) (c : Int) (d : List GRead) : Option ((List GTape)) :=
  (iCopyTapes a).bind fun r1 =>
  (iTapeIndex a b c).bind fun r2 =>
  bif (decide (r2 ≥ 0)) then
    (idx r1 r2).bind fun _ =>
    (r1[r2.toNat]?).bind fun e4 =>
    (iMergeReads e4.reads d).bind fun r5 =>
    (idx r1 r2).bind fun _ =>
    (r1[r2.toNat]?).bind fun e7 =>
    some (r1.set r2.toNat (GTape.mk e7.cell e7.version r5))
  else
  bif ((d.length : Int) == 0) then
    some (r1)
  else
  (iMergeReads [] d).bind fun r8 =>
  loopD (fun (x9 : (List GTape) × Int × Int × Int × (List GRead)) =>
    bif (decide (x9.2.1 < (x9.1.length : Int))) then
      (idx x9.1 x9.2.1).bind fun _ =>
      (x9.1[x9.2.1.toNat]?).bind fun e11 =>
      (iTapeBefore (GTape.mk x9.2.2.1 x9.2.2.2.1 x9.2.2.2.2) e11).bind fun r12 =>
      bif (!r12) then
        some (.inl (x9.1, w64 (x9.2.1 + 1), x9.2.2.1, x9.2.2.2.1, x9.2.2.2.2))
      else
        (
          (eff.cutL x9.1 none (some x9.2.1)).bind fun r13 =>
          (gd (0 + r13.length)).bind fun _ =>
          (gd (([] ++ r13).length + [GTape.mk x9.2.2.1 x9.2.2.2.1 x9.2.2.2.2].length)).bind fun _ =>
          (eff.cutL x9.1 (some x9.2.1) none).bind fun r14 =>
          (gd ((([] ++ r13) ++ [GTape.mk x9.2.2.1 x9.2.2.2.1 x9.2.2.2.2]).length + r14.length)).bind fun _ =>
          some ((([] ++ r13) ++ [GTape.mk x9.2.2.1 x9.2.2.2.1 x9.2.2.2.2]) ++ r14)
        ).bind fun r => some (.inr r)
    else
      (
        (eff.cutL x9.1 none (some x9.2.1)).bind fun r15 =>
        (gd (0 + r15.length)).bind fun _ =>
        (gd (([] ++ r15).length + [GTape.mk x9.2.2.1 x9.2.2.2.1 x9.2.2.2.2].length)).bind fun _ =>
        (eff.cutL x9.1 (some x9.2.1) none).bind fun r16 =>
        (gd ((([] ++ r15) ++ [GTape.mk x9.2.2.1 x9.2.2.2.1 x9.2.2.2.2]).length + r16.length)).bind fun _ =>
        some ((([] ++ r15) ++ [GTape.mk x9.2.2.1 x9.2.2.2.1 x9.2.2.2.2]) ++ r16)
      ).bind fun r => some (.inr r)
  ) (r1, 0, b, c, r8)
noncomputable def iPutTapeFS : Fsp := { fid := 26, ps := [⟨false, .list (.base .tape)⟩, ⟨false, .base .int⟩, ⟨false, .base .int⟩, ⟨false, .list (.base .read)⟩], rs := [⟨false, .list (.base .tape)⟩], ex := false, sh := true, fn := fun x => iPutTape x.1 x.2.1 x.2.2.1 x.2.2.2 }
noncomputable def iCopyTape (a : List GTape) (b : Int) (c : Int) (d : Int) : Option ((List GTape)) :=
  (iTapeOf a b c).bind fun r1 =>
  (iPutTape a b d r1).bind fun r2 =>
  some (r2)
noncomputable def iCopyTapeFS : Fsp := { fid := 20, ps := [⟨false, .list (.base .tape)⟩, ⟨false, .base .int⟩, ⟨false, .base .int⟩, ⟨false, .base .int⟩], rs := [⟨false, .list (.base .tape)⟩], ex := false, sh := true, fn := fun x => iCopyTape x.1 x.2.1 x.2.2.1 x.2.2.2 }
noncomputable def sTapeOf (a : List GTape) (b : Int) (c : Int) : Option ((List GRead)) :=
  (sL26At a b c).bind fun r1 =>
  bif (decide (r1 < 0)) then
    some ([])
  else
    (idx a r1).bind fun e2 =>
    (sL16Reads e2.reads).bind fun r3 =>
    some (r3)
noncomputable def sTapeOfFS : Fsp := { fid := 23, ps := [⟨false, .list (.base .tape)⟩, ⟨false, .base .int⟩, ⟨false, .base .int⟩], rs := [⟨false, .list (.base .read)⟩], ex := true, fn := fun x => sTapeOf x.1 x.2.1 x.2.2 }
noncomputable def sCopyTape (a : List GTape) (b : Int) (c : Int) (d : Int) : Option ((List GTape)) :=
  (sTapeOf a b c).bind fun r1 =>
  (sPutTape a b d r1).bind fun r2 =>
  some (r2)
noncomputable def sCopyTapeFS : Fsp := { fid := 22, ps := [⟨false, .list (.base .tape)⟩, ⟨false, .base .int⟩, ⟨false, .base .int⟩, ⟨false, .base .int⟩], rs := [⟨false, .list (.base .tape)⟩], ex := false, sh := true, fn := fun x => sCopyTape x.1 x.2.1 x.2.2.1 x.2.2.2 }
noncomputable def FnCopied (a : List Int) : Option (Bool) :=
  (big a).bind fun r1 =>
  bif r1 then
    some (true)
  else
  (sDrawCopyTape a).bind fun r2 =>
  (iCopyTape r2.1 r2.2.1 r2.2.2.1 r2.2.2.2).bind fun r3 =>
  (sCopyTape r2.1 r2.2.1 r2.2.2.1 r2.2.2.2).bind fun r4 =>
  (sameTapes r3 r4).bind fun r5 =>
  bif (!r5) then
    some (false)
  else
  (sTapeOf r2.1 r2.2.1 r2.2.2.1).bind fun r6 =>
  loopD (fun (x7 : Int × Int × Int × (List GTape) × (List GRead) × Int) =>
    bif (decide (x7.2.2.2.2.2 < (x7.2.2.2.2.1.length : Int))) then
      (iTapeOf x7.2.2.2.1 x7.1 x7.2.2.1).bind fun r8 =>
      (idx x7.2.2.2.2.1 x7.2.2.2.2.2).bind fun _ =>
      (x7.2.2.2.2.1[x7.2.2.2.2.2.toNat]?).bind fun e10 =>
      (sFindRead r8 (reRead e10)).bind fun r11 =>
      bif (!r11.2) then
        some (.inr (false))
      else
        some (.inl (x7.1, x7.2.1, x7.2.2.1, x7.2.2.2.1, x7.2.2.2.2.1, w64 (x7.2.2.2.2.2 + 1)))
    else
      (
        (iCopyTape x7.2.2.2.1 x7.1 x7.2.1 x7.2.2.1).bind fun r12 =>
        (sameTapes r12 x7.2.2.2.1).bind fun r13 =>
        some (r13)
      ).bind fun r => some (.inr r)
  ) (r2.2.1, r2.2.2.1, r2.2.2.2, r3, r6, 0)
noncomputable def FnCopiedFS : Fsp := { fid := 4, ps := [⟨false, .list (.base .u8)⟩], rs := [⟨false, .base .bool⟩], ex := true, fn := fun x => FnCopied x }
noncomputable def sDrawPutTape (a : List Int) : Option ((List GTape) × Int × Int × (List GRead)) :=
  (sL1New a).bind fun r1 =>
  (sL26Draw r1).bind fun r2 =>
  (sL1Below r2.1 6).bind fun r3 =>
  (sL1Below r3.1 3).bind fun r4 =>
  (sL16Tape r4.1).bind fun r5 =>
  some (r2.2, w64 (1 + r3.2), w64 (1 + r4.2), r5.2)
noncomputable def sDrawPutTapeFS : Fsp := { fid := 25, ps := [⟨false, .list (.base .u8)⟩], rs := [⟨false, .list (.base .tape)⟩, ⟨false, .base .int⟩, ⟨false, .base .int⟩, ⟨false, .list (.base .read)⟩], ex := false, sh := true, fn := fun x => sDrawPutTape x }
noncomputable def sAreOrdered (a : List GTape) : Option (Bool) :=
  loopD (fun (x1 : (List GTape) × Int) =>
    bif (decide (x1.2 < (x1.1.length : Int))) then
      (idx x1.1 (w64 (x1.2 - 1))).bind fun e2 =>
      (idx x1.1 x1.2).bind fun e3 =>
      (sL26Before e2 e3).bind fun r4 =>
      bif (!r4) then
        some (.inr (false))
      else
        some (.inl (x1.1, w64 (x1.2 + 1)))
    else
      some (.inr (true))
  ) (a, 1)
noncomputable def sAreOrderedFS : Fsp := { fid := 28, ps := [⟨false, .list (.base .tape)⟩], rs := [⟨false, .base .bool⟩], ex := true, fn := fun x => sAreOrdered x }
noncomputable def iAreOrdered (a : List GTape) : Option (Bool) :=
  loopD (fun (x1 : (List GTape) × Int) =>
    bif (decide (x1.2 < (x1.1.length : Int))) then
      (idx x1.1 (w64 (x1.2 - 1))).bind fun e2 =>
      (idx x1.1 x1.2).bind fun e3 =>
      (iTapeBefore e2 e3).bind fun r4 =>
      bif (!r4) then
        some (.inr (false))
      else
        some (.inl (x1.1, w64 (x1.2 + 1)))
    else
      some (.inr (true))
  ) (a, 1)
noncomputable def iAreOrderedFS : Fsp := { fid := 29, ps := [⟨false, .list (.base .tape)⟩], rs := [⟨false, .base .bool⟩], ex := true, fn := fun x => iAreOrdered x }
noncomputable def iCountReads (a : List GTape) : Option (Int) :=
  loopD (fun (x1 : Int × (List GTape) × Int × Int) =>
    bif (decide (x1.2.2.2 < x1.2.2.1)) then
      (idx x1.2.1 x1.2.2.2).bind fun e2 =>
      some (.inl (w64 (x1.1 + (e2.reads.length : Int)), x1.2.1, x1.2.2.1, w64 (x1.2.2.2 + 1)))
    else
      some (.inr (x1.1))
  ) (0, a, (a.length : Int), 0)
noncomputable def iCountReadsFS : Fsp := { fid := 30, ps := [⟨false, .list (.base .tape)⟩], rs := [⟨false, .base .int⟩], ex := true, fn := fun x => iCountReads x }
noncomputable def FnTapesKept (a : List Int) : Option (Bool) :=
  (big a).bind fun r1 =>
  bif r1 then
    some (true)
  else
  (sDrawPutTape a).bind fun r2 =>
  (iPutTape r2.1 r2.2.1 r2.2.2.1 r2.2.2.2).bind fun r3 =>
  (sPutTape r2.1 r2.2.1 r2.2.2.1 r2.2.2.2).bind fun r4 =>
  (sameTapes r3 r4).bind fun r5 =>
  bif (!r5) then
    some (false)
  else
  (sAreOrdered r2.1).bind fun r6 =>
  bif r6 then
    (iAreOrdered r3).bind fun r7 =>
    bif (!r7) then
      some (false)
    else
    (sTapeOf r2.1 r2.2.1 r2.2.2.1).bind fun r8 =>
    (iTapeOf r3 r2.2.1 r2.2.2.1).bind fun r9 =>
    (sMergeReads r8 r2.2.2.2).bind fun r10 =>
    (sameReads r9 r10).bind fun r11 =>
    bif (!r11) then
      some (false)
    else
    (iCountReads r3).bind fun r12 =>
    (iCountReads r2.1).bind fun r13 =>
    bif (decide (r12 < r13)) then
      some (false)
    else
    loopD (fun (x14 : (List GTape) × Int × Int × (List GRead) × (List GTape) × Int) =>
      bif (decide (x14.2.2.2.2.2 < (x14.1.length : Int))) then
        (idx x14.1 x14.2.2.2.2.2).bind fun _ =>
        (x14.1[x14.2.2.2.2.2.toNat]?).bind fun e16 =>
        bif (e16.cell != x14.2.1) then
          (iTapeOf x14.2.2.2.2.1 e16.cell e16.version).bind fun r17 =>
          (sTapeOf x14.1 e16.cell e16.version).bind fun r18 =>
          (sameReads r17 r18).bind fun r19 =>
          bif (!r19) then
            some (.inr (false))
          else
            some (.inl (x14.1, x14.2.1, x14.2.2.1, x14.2.2.2.1, x14.2.2.2.2.1, w64 (x14.2.2.2.2.2 + 1)))
        else
        bif (e16.version != x14.2.2.1) then
          (iTapeOf x14.2.2.2.2.1 e16.cell e16.version).bind fun r20 =>
          (sTapeOf x14.1 e16.cell e16.version).bind fun r21 =>
          (sameReads r20 r21).bind fun r22 =>
          bif (!r22) then
            some (.inr (false))
          else
            some (.inl (x14.1, x14.2.1, x14.2.2.1, x14.2.2.2.1, x14.2.2.2.2.1, w64 (x14.2.2.2.2.2 + 1)))
        else
          some (.inl (x14.1, x14.2.1, x14.2.2.1, x14.2.2.2.1, x14.2.2.2.2.1, w64 (x14.2.2.2.2.2 + 1)))
      else
        (
          (iPutTape x14.2.2.2.2.1 x14.2.1 x14.2.2.1 x14.2.2.2.1).bind fun r23 =>
          (sameTapes r23 x14.2.2.2.2.1).bind fun r24 =>
          some (r24)
        ).bind fun r => some (.inr r)
    ) (r2.1, r2.2.1, r2.2.2.1, r2.2.2.2, r3, 0)
  else
  (sTapeOf r2.1 r2.2.1 r2.2.2.1).bind fun r25 =>
  (iTapeOf r3 r2.2.1 r2.2.2.1).bind fun r26 =>
  (sMergeReads r25 r2.2.2.2).bind fun r27 =>
  (sameReads r26 r27).bind fun r28 =>
  bif (!r28) then
    some (false)
  else
  (iCountReads r3).bind fun r29 =>
  (iCountReads r2.1).bind fun r30 =>
  bif (decide (r29 < r30)) then
    some (false)
  else
  loopD (fun (x31 : (List GTape) × Int × Int × (List GRead) × (List GTape) × Int) =>
    bif (decide (x31.2.2.2.2.2 < (x31.1.length : Int))) then
      (idx x31.1 x31.2.2.2.2.2).bind fun _ =>
      (x31.1[x31.2.2.2.2.2.toNat]?).bind fun e33 =>
      bif (e33.cell != x31.2.1) then
        (iTapeOf x31.2.2.2.2.1 e33.cell e33.version).bind fun r34 =>
        (sTapeOf x31.1 e33.cell e33.version).bind fun r35 =>
        (sameReads r34 r35).bind fun r36 =>
        bif (!r36) then
          some (.inr (false))
        else
          some (.inl (x31.1, x31.2.1, x31.2.2.1, x31.2.2.2.1, x31.2.2.2.2.1, w64 (x31.2.2.2.2.2 + 1)))
      else
      bif (e33.version != x31.2.2.1) then
        (iTapeOf x31.2.2.2.2.1 e33.cell e33.version).bind fun r37 =>
        (sTapeOf x31.1 e33.cell e33.version).bind fun r38 =>
        (sameReads r37 r38).bind fun r39 =>
        bif (!r39) then
          some (.inr (false))
        else
          some (.inl (x31.1, x31.2.1, x31.2.2.1, x31.2.2.2.1, x31.2.2.2.2.1, w64 (x31.2.2.2.2.2 + 1)))
      else
        some (.inl (x31.1, x31.2.1, x31.2.2.1, x31.2.2.2.1, x31.2.2.2.2.1, w64 (x31.2.2.2.2.2 + 1)))
    else
      (
        (iPutTape x31.2.2.2.2.1 x31.2.1 x31.2.2.1 x31.2.2.2.1).bind fun r40 =>
        (sameTapes r40 x31.2.2.2.2.1).bind fun r41 =>
        some (r41)
      ).bind fun r => some (.inr r)
  ) (r2.1, r2.2.1, r2.2.2.1, r2.2.2.2, r3, 0)
noncomputable def FnTapesKeptFS : Fsp := { fid := 5, ps := [⟨false, .list (.base .u8)⟩], rs := [⟨false, .base .bool⟩], ex := true, fn := fun x => FnTapesKept x }
end Go.Proofs.Ytikafaabbikflaa
