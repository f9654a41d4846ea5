/- What the functions compute, by gen.py. -/
import Derived.Test.YtijhfajcbmpndaaTabs
import Derived.Test.YtijhfajcbmpndaaSortD
namespace Go.Proofs.Ytijhfajcbmpndaa
open Go.Abs Go.Proofs
set_option linter.unusedVariables false
abbrev siz {α : Type} [SizeOf α] (x : α) : Nat := SizeOf.sizeOf x
abbrev w64 (n : Int) : Int := IntKind.i64.wrap n
abbrev w8 (n : Int) : Int := IntKind.u8.wrap n
noncomputable def szIntS (a : List Int) (b : Int) : Option (Int) :=
  bif (decide ((w64 (b - (a.length : Int))) < 0)) then
    some ((-1))
  else
    some (w64 (b - (a.length : Int)))
noncomputable def szIntSFS : Fsp := { fid := 26, ps := [⟨false, .list (.base .int)⟩, ⟨false, .base .int⟩], rs := [⟨false, .base .int⟩], ex := true, fn := fun x => szIntS x.1 x.2 }
noncomputable def szCell (a : GCell) (b : Int) : Option (Int) :=
  bif (decide ((w64 (b - (a.name.length : Int))) < 0)) then
    some ((-1))
  else
    bif (decide ((w64 ((w64 (b - (a.name.length : Int))) - (a.code.length : Int))) < 0)) then
      some ((-1))
    else
      some (w64 ((w64 (b - (a.name.length : Int))) - (a.code.length : Int)))
noncomputable def szCellFS : Fsp := { fid := 47, ps := [⟨true, .base .cell⟩, ⟨false, .base .int⟩], rs := [⟨false, .base .int⟩], ex := true, fn := fun x => szCell x.1 x.2 }
noncomputable def szEdit (a : GEdit) (b : Int) : Option (Int) :=
  (szCell a.cell b).bind fun r1 =>
  bif (decide (r1 < 0)) then
    some ((-1))
  else
    some (r1)
noncomputable def szEditFS : Fsp := { fid := 27, ps := [⟨true, .base .edit⟩, ⟨false, .base .int⟩], rs := [⟨false, .base .int⟩], ex := true, fn := fun x => szEdit x.1 x.2 }
noncomputable def szStringS (a : List Str) (b : Int) : Option (Int) :=
  bif (decide ((w64 (b - (a.length : Int))) < 0)) then
    some ((-1))
  else
    loopD (fun (x1 : (List Str) × Int × Int) =>
      bif (decide (x1.2.2 < (x1.1.length : Int))) then
        (idx x1.1 x1.2.2).bind fun e2 =>
        bif (decide ((w64 (x1.2.1 - (e2.length : Int))) < 0)) then
          some (.inr ((-1)))
        else
          some (.inl (x1.1, w64 (x1.2.1 - (e2.length : Int)), w64 (x1.2.2 + 1)))
      else
        some (.inr (x1.2.1))
    ) (a, w64 (b - (a.length : Int)), 0)
noncomputable def szStringSFS : Fsp := { fid := 76, ps := [⟨false, .list (.base .str)⟩, ⟨false, .base .int⟩], rs := [⟨false, .base .int⟩], ex := true, fn := fun x => szStringS x.1 x.2 }
noncomputable def szOriginS (a : List GOrigin) (b : Int) : Option (Int) :=
  bif (decide ((w64 (b - (a.length : Int))) < 0)) then
    some ((-1))
  else
    some (w64 (b - (a.length : Int)))
noncomputable def szOriginSFS : Fsp := { fid := 89, ps := [⟨false, .list (.base .origin)⟩, ⟨false, .base .int⟩], rs := [⟨false, .base .int⟩], ex := true, fn := fun x => szOriginS x.1 x.2 }
noncomputable def szRow (a : GRow) (b : Int) : Option (Int) :=
  (szIntS a.cells b).bind fun r1 =>
  bif (decide (r1 < 0)) then
    some ((-1))
  else
    (szOriginS a.orig r1).bind fun r2 =>
    bif (decide (r2 < 0)) then
      some ((-1))
    else
      some (r2)
noncomputable def szRowFS : Fsp := { fid := 86, ps := [⟨true, .base .row⟩, ⟨false, .base .int⟩], rs := [⟨false, .base .int⟩], ex := true, fn := fun x => szRow x.1 x.2 }
noncomputable def szRowS (a : List GRow) (b : Int) : Option (Int) :=
  bif (decide ((w64 (b - (a.length : Int))) < 0)) then
    some ((-1))
  else
  loopD (fun (x1 : (List GRow) × Int × Int) =>
    bif (decide (x1.2.2 < (x1.1.length : Int))) then
      (idx x1.1 x1.2.2).bind fun e2 =>
      (szRow e2 x1.2.1).bind fun r3 =>
      bif (decide (r3 < 0)) then
        some (.inr ((-1)))
      else
        some (.inl (x1.1, r3, w64 (x1.2.2 + 1)))
    else
      some (.inr (x1.2.1))
  ) (a, w64 (b - (a.length : Int)), 0)
noncomputable def szRowSFS : Fsp := { fid := 77, ps := [⟨false, .list (.base .row)⟩, ⟨false, .base .int⟩], rs := [⟨false, .base .int⟩], ex := true, fn := fun x => szRowS x.1 x.2 }
noncomputable def szValueB (rszValue : GVal → Int → Option (Int)) (rszValueS : (List GVal) → Int → Option (Int)) (a : GVal) (b : Int) : Option (Int) :=
  bif (decide ((w64 (b - (a.text.length : Int))) < 0)) then
    some ((-1))
  else
  (rszValueS a.list (w64 (b - (a.text.length : Int)))).bind fun r1 =>
  bif (decide (r1 < 0)) then
    some ((-1))
  else
    (szStringS a.columns r1).bind fun r2 =>
    bif (decide (r2 < 0)) then
      some ((-1))
    else
      (szRowS a.rows r2).bind fun r3 =>
      bif (decide (r3 < 0)) then
        some ((-1))
      else
        some (r3)
noncomputable def szValueSB (rszValue : GVal → Int → Option (Int)) (rszValueS : (List GVal) → Int → Option (Int)) (a : List GVal) (b : Int) : Option (Int) :=
  bif (decide ((w64 (b - (a.length : Int))) < 0)) then
    some ((-1))
  else
  loopD (fun (x1 : (List GVal) × Int × Int) =>
    bif (decide (x1.2.2 < (x1.1.length : Int))) then
      (idx x1.1 x1.2.2).bind fun e2 =>
      (rszValue (reVal e2) x1.2.1).bind fun r3 =>
      bif (decide (r3 < 0)) then
        some (.inr ((-1)))
      else
        some (.inl (x1.1, r3, w64 (x1.2.2 + 1)))
    else
      some (.inr (x1.2.1))
  ) (a, w64 (b - (a.length : Int)), 0)
noncomputable def szValueG : Nat → (GVal → Int → Option (Int)) × ((List GVal) → Int → Option (Int))
  | 0 => (fun _ _ => none, fun _ _ => none)
  | n + 1 => (szValueB (szValueG n).1 (szValueG n).2, szValueSB (szValueG n).1 (szValueG n).2)
noncomputable def szValue (a : GVal) (b : Int) : Option (Int) := (szValueG (siz a + 1)).1 a b
noncomputable def szValueFS : Fsp := { fid := 68, ps := [⟨true, .base .val⟩, ⟨false, .base .int⟩], rs := [⟨false, .base .int⟩], ex := true, fn := fun x => szValue x.1 x.2 }
noncomputable def szValueFSN (n : Nat) : Fsp := { fid := 68, ps := [⟨true, .base .val⟩, ⟨false, .base .int⟩], rs := [⟨false, .base .int⟩], ex := true, fn := fun x => (szValueG n).1 x.1 x.2 }
noncomputable def szValueS (a : List GVal) (b : Int) : Option (Int) := (szValueG (siz a + 1)).2 a b
noncomputable def szValueSFS : Fsp := { fid := 75, ps := [⟨false, .list (.base .val)⟩, ⟨false, .base .int⟩], rs := [⟨false, .base .int⟩], ex := true, fn := fun x => szValueS x.1 x.2 }
noncomputable def szValueSFSN (n : Nat) : Fsp := { fid := 75, ps := [⟨false, .list (.base .val)⟩, ⟨false, .base .int⟩], rs := [⟨false, .base .int⟩], ex := true, fn := fun x => (szValueG n).2 x.1 x.2 }
noncomputable def szRead (a : GRead) (b : Int) : Option (Int) :=
  bif (decide ((w64 (b - (a.text.length : Int))) < 0)) then
    some ((-1))
  else
    (szValue (reVal a.result) (w64 (b - (a.text.length : Int)))).bind fun r1 =>
    bif (decide (r1 < 0)) then
      some ((-1))
    else
      some (r1)
noncomputable def szReadFS : Fsp := { fid := 48, ps := [⟨true, .base .read⟩, ⟨false, .base .int⟩], rs := [⟨false, .base .int⟩], ex := true, fn := fun x => szRead x.1 x.2 }
noncomputable def szReadS (a : List GRead) (b : Int) : Option (Int) :=
  bif (decide ((w64 (b - (a.length : Int))) < 0)) then
    some ((-1))
  else
  loopD (fun (x1 : (List GRead) × Int × Int) =>
    bif (decide (x1.2.2 < (x1.1.length : Int))) then
      (idx x1.1 x1.2.2).bind fun e2 =>
      (szRead (reRead e2) x1.2.1).bind fun r3 =>
      bif (decide (r3 < 0)) then
        some (.inr ((-1)))
      else
        some (.inl (x1.1, r3, w64 (x1.2.2 + 1)))
    else
      some (.inr (x1.2.1))
  ) (a, w64 (b - (a.length : Int)), 0)
noncomputable def szReadSFS : Fsp := { fid := 28, ps := [⟨false, .list (.base .read)⟩, ⟨false, .base .int⟩], rs := [⟨false, .base .int⟩], ex := true, fn := fun x => szReadS x.1 x.2 }
noncomputable def szOp (a : GOp) (b : Int) : Option (Int) :=
  (szIntS a.seen b).bind fun r1 =>
  bif (decide (r1 < 0)) then
    some ((-1))
  else
  (szEdit a.edit r1).bind fun r2 =>
  bif (decide (r2 < 0)) then
    some ((-1))
  else
  bif (decide ((w64 (r2 - (a.src.length : Int))) < 0)) then
    some ((-1))
  else
    bif (decide ((w64 ((w64 (r2 - (a.src.length : Int))) - (a.dst.length : Int))) < 0)) then
      some ((-1))
    else
      (szReadS a.reads (w64 ((w64 (r2 - (a.src.length : Int))) - (a.dst.length : Int)))).bind fun r3 =>
      bif (decide (r3 < 0)) then
        some ((-1))
      else
        some (r3)
noncomputable def szOpFS : Fsp := { fid := 11, ps := [⟨true, .base .op⟩, ⟨false, .base .int⟩], rs := [⟨false, .base .int⟩], ex := true, fn := fun x => szOp x.1 x.2 }
noncomputable def szOpS (a : List GOp) (b : Int) : Option (Int) :=
  bif (decide ((w64 (b - (a.length : Int))) < 0)) then
    some ((-1))
  else
  loopD (fun (x1 : (List GOp) × Int × Int) =>
    bif (decide (x1.2.2 < (x1.1.length : Int))) then
      (idx x1.1 x1.2.2).bind fun e2 =>
      (szOp e2 x1.2.1).bind fun r3 =>
      bif (decide (r3 < 0)) then
        some (.inr ((-1)))
      else
        some (.inl (x1.1, r3, w64 (x1.2.2 + 1)))
    else
      some (.inr (x1.2.1))
  ) (a, w64 (b - (a.length : Int)), 0)
noncomputable def szOpSFS : Fsp := { fid := 4, ps := [⟨false, .list (.base .op)⟩, ⟨false, .base .int⟩], rs := [⟨false, .base .int⟩], ex := true, fn := fun x => szOpS x.1 x.2 }
noncomputable def sL42Place (a : List GOp) (b : GOp) : Option (Int) :=
  loopD (fun (x1 : (List GOp) × Int × Int × Int × (List Int) × Int × Int × Int × Int × Int × Str × Str × Int × Str × Str × Int × Int × (List GRead) × Int) =>
    bif (decide (x1.2.2.2.2.2.2.2.2.2.2.2.2.2.2.2.2.2.2 < (x1.1.length : Int))) then
      (idx x1.1 x1.2.2.2.2.2.2.2.2.2.2.2.2.2.2.2.2.2.2).bind fun e2 =>
      bif (e2.time == x1.2.1) then
        (idx x1.1 x1.2.2.2.2.2.2.2.2.2.2.2.2.2.2.2.2.2.2).bind fun e3 =>
        bif (e3.by_ == x1.2.2.1) then
          some (.inr (x1.2.2.2.2.2.2.2.2.2.2.2.2.2.2.2.2.2.2))
        else
          some (.inl (x1.1, x1.2.1, x1.2.2.1, x1.2.2.2.1, x1.2.2.2.2.1, x1.2.2.2.2.2.1, x1.2.2.2.2.2.2.1, x1.2.2.2.2.2.2.2.1, x1.2.2.2.2.2.2.2.2.1, x1.2.2.2.2.2.2.2.2.2.1, x1.2.2.2.2.2.2.2.2.2.2.1, x1.2.2.2.2.2.2.2.2.2.2.2.1, x1.2.2.2.2.2.2.2.2.2.2.2.2.1, x1.2.2.2.2.2.2.2.2.2.2.2.2.2.1, x1.2.2.2.2.2.2.2.2.2.2.2.2.2.2.1, x1.2.2.2.2.2.2.2.2.2.2.2.2.2.2.2.1, x1.2.2.2.2.2.2.2.2.2.2.2.2.2.2.2.2.1, x1.2.2.2.2.2.2.2.2.2.2.2.2.2.2.2.2.2.1, w64 (x1.2.2.2.2.2.2.2.2.2.2.2.2.2.2.2.2.2.2 + 1)))
      else
        some (.inl (x1.1, x1.2.1, x1.2.2.1, x1.2.2.2.1, x1.2.2.2.2.1, x1.2.2.2.2.2.1, x1.2.2.2.2.2.2.1, x1.2.2.2.2.2.2.2.1, x1.2.2.2.2.2.2.2.2.1, x1.2.2.2.2.2.2.2.2.2.1, x1.2.2.2.2.2.2.2.2.2.2.1, x1.2.2.2.2.2.2.2.2.2.2.2.1, x1.2.2.2.2.2.2.2.2.2.2.2.2.1, x1.2.2.2.2.2.2.2.2.2.2.2.2.2.1, x1.2.2.2.2.2.2.2.2.2.2.2.2.2.2.1, x1.2.2.2.2.2.2.2.2.2.2.2.2.2.2.2.1, x1.2.2.2.2.2.2.2.2.2.2.2.2.2.2.2.2.1, x1.2.2.2.2.2.2.2.2.2.2.2.2.2.2.2.2.2.1, w64 (x1.2.2.2.2.2.2.2.2.2.2.2.2.2.2.2.2.2.2 + 1)))
    else
      some (.inr ((-1)))
  ) (a, b.time, b.by_, b.kind, b.seen, b.edit.kind, b.edit.pos, b.edit.cell.id, b.edit.cell.version, b.edit.cell.kind, b.edit.cell.name, b.edit.cell.code, b.edit.cell.n, b.src, b.dst, b.cell, b.version, b.reads, 0)
noncomputable def sL42PlaceFS : Fsp := { fid := 12, ps := [⟨false, .list (.base .op)⟩, ⟨true, .base .op⟩], rs := [⟨false, .base .int⟩], ex := true, fn := fun x => sL42Place x.1 x.2 }
noncomputable def sOpBefore (a : GOp) (b : GOp) : Option (Bool) :=
  bif (decide (a.time < b.time)) then
    some (true)
  else
    bif (a.time == b.time) then
      some ((decide (a.by_ < b.by_)))
    else
      some (false)
noncomputable def sOpBeforeFS : Fsp := { fid := 13, ps := [⟨true, .base .op⟩, ⟨true, .base .op⟩], rs := [⟨false, .base .bool⟩], ex := true, fn := fun x => sOpBefore x.1 x.2 }
noncomputable def sL3Row (a : GRow) : Option (GRow) :=
  (gd (0 + a.cells.length)).bind fun _ =>
  (gd (0 + a.orig.length)).bind fun _ =>
  some (GRow.mk ([] ++ a.cells) ([] ++ a.orig))
noncomputable def sL3RowFS : Fsp := { fid := 78, ps := [⟨true, .base .row⟩], rs := [⟨true, .base .row⟩], ex := true, fn := fun x => sL3Row x }
noncomputable def sL3CopyB (rsL3Copy : GVal → Option (GVal)) (a : GVal) : Option (GVal) :=
  (gd (0 + a.columns.length)).bind fun _ =>
  loopD (fun (x1 : Int × Int × Int × Str × (List GVal) × (List Str) × (List GRow) × Int × Int × Int × Str × (List GVal) × (List Str) × (List GRow) × Int × Int × Int × Str × (List GVal) × (List Str) × (List GRow) × Int) =>
    bif (decide (x1.2.2.2.2.2.2.2.2.2.2.2.2.2.2.2.2.2.2.2.2.2 < (x1.2.2.2.2.1.length : Int))) then
      (idx x1.2.2.2.2.1 x1.2.2.2.2.2.2.2.2.2.2.2.2.2.2.2.2.2.2.2.2.2).bind fun e2 =>
      (rsL3Copy (reVal e2)).bind fun r3 =>
      (gd (x1.2.2.2.2.2.2.2.2.2.2.2.2.2.2.2.2.2.2.1.length + [reVal r3].length)).bind fun _ =>
      some (.inl (x1.1, x1.2.1, x1.2.2.1, x1.2.2.2.1, x1.2.2.2.2.1, x1.2.2.2.2.2.1, x1.2.2.2.2.2.2.1, x1.2.2.2.2.2.2.2.1, x1.2.2.2.2.2.2.2.2.1, x1.2.2.2.2.2.2.2.2.2.1, x1.2.2.2.2.2.2.2.2.2.2.1, x1.2.2.2.2.2.2.2.2.2.2.2.1, x1.2.2.2.2.2.2.2.2.2.2.2.2.1, x1.2.2.2.2.2.2.2.2.2.2.2.2.2.1, x1.2.2.2.2.2.2.2.2.2.2.2.2.2.2.1, x1.2.2.2.2.2.2.2.2.2.2.2.2.2.2.2.1, x1.2.2.2.2.2.2.2.2.2.2.2.2.2.2.2.2.1, x1.2.2.2.2.2.2.2.2.2.2.2.2.2.2.2.2.2.1, x1.2.2.2.2.2.2.2.2.2.2.2.2.2.2.2.2.2.2.1 ++ [reVal r3], x1.2.2.2.2.2.2.2.2.2.2.2.2.2.2.2.2.2.2.2.1, x1.2.2.2.2.2.2.2.2.2.2.2.2.2.2.2.2.2.2.2.2.1, w64 (x1.2.2.2.2.2.2.2.2.2.2.2.2.2.2.2.2.2.2.2.2.2 + 1)))
    else
      (
        loopD (fun (x4 : Int × Int × Int × Str × (List GVal) × (List Str) × (List GRow) × Int × Int × Int × Str × (List GVal) × (List Str) × (List GRow) × Int × Int × Int × Str × (List GVal) × (List Str) × (List GRow) × Int) =>
          bif (decide (x4.2.2.2.2.2.2.2.2.2.2.2.2.2.2.2.2.2.2.2.2.2 < (x4.2.2.2.2.2.2.1.length : Int))) then
            (idx x4.2.2.2.2.2.2.1 x4.2.2.2.2.2.2.2.2.2.2.2.2.2.2.2.2.2.2.2.2.2).bind fun e5 =>
            (sL3Row e5).bind fun r6 =>
            (gd (x4.2.2.2.2.2.2.2.2.2.2.2.2.2.2.2.2.2.2.2.2.1.length + [r6].length)).bind fun _ =>
            some (.inl (x4.1, x4.2.1, x4.2.2.1, x4.2.2.2.1, x4.2.2.2.2.1, x4.2.2.2.2.2.1, x4.2.2.2.2.2.2.1, x4.2.2.2.2.2.2.2.1, x4.2.2.2.2.2.2.2.2.1, x4.2.2.2.2.2.2.2.2.2.1, x4.2.2.2.2.2.2.2.2.2.2.1, x4.2.2.2.2.2.2.2.2.2.2.2.1, x4.2.2.2.2.2.2.2.2.2.2.2.2.1, x4.2.2.2.2.2.2.2.2.2.2.2.2.2.1, x4.2.2.2.2.2.2.2.2.2.2.2.2.2.2.1, x4.2.2.2.2.2.2.2.2.2.2.2.2.2.2.2.1, x4.2.2.2.2.2.2.2.2.2.2.2.2.2.2.2.2.1, x4.2.2.2.2.2.2.2.2.2.2.2.2.2.2.2.2.2.1, x4.2.2.2.2.2.2.2.2.2.2.2.2.2.2.2.2.2.2.1, x4.2.2.2.2.2.2.2.2.2.2.2.2.2.2.2.2.2.2.2.1, x4.2.2.2.2.2.2.2.2.2.2.2.2.2.2.2.2.2.2.2.2.1 ++ [r6], w64 (x4.2.2.2.2.2.2.2.2.2.2.2.2.2.2.2.2.2.2.2.2.2 + 1)))
          else
            some (.inr (GVal.mk x4.2.2.2.2.2.2.2.2.2.2.2.2.2.2.1 x4.2.2.2.2.2.2.2.2.2.2.2.2.2.2.2.1 x4.2.2.2.2.2.2.2.2.2.2.2.2.2.2.2.2.1 x4.2.2.2.2.2.2.2.2.2.2.2.2.2.2.2.2.2.1 x4.2.2.2.2.2.2.2.2.2.2.2.2.2.2.2.2.2.2.1 x4.2.2.2.2.2.2.2.2.2.2.2.2.2.2.2.2.2.2.2.1 x4.2.2.2.2.2.2.2.2.2.2.2.2.2.2.2.2.2.2.2.2.1))
        ) (x1.1, x1.2.1, x1.2.2.1, x1.2.2.2.1, x1.2.2.2.2.1, x1.2.2.2.2.2.1, x1.2.2.2.2.2.2.1, x1.2.2.2.2.2.2.2.1, x1.2.2.2.2.2.2.2.2.1, x1.2.2.2.2.2.2.2.2.2.1, x1.2.2.2.2.2.2.2.2.2.2.1, x1.2.2.2.2.2.2.2.2.2.2.2.1, x1.2.2.2.2.2.2.2.2.2.2.2.2.1, x1.2.2.2.2.2.2.2.2.2.2.2.2.2.1, x1.2.2.2.2.2.2.2.2.2.2.2.2.2.2.1, x1.2.2.2.2.2.2.2.2.2.2.2.2.2.2.2.1, x1.2.2.2.2.2.2.2.2.2.2.2.2.2.2.2.2.1, x1.2.2.2.2.2.2.2.2.2.2.2.2.2.2.2.2.2.1, x1.2.2.2.2.2.2.2.2.2.2.2.2.2.2.2.2.2.2.1, x1.2.2.2.2.2.2.2.2.2.2.2.2.2.2.2.2.2.2.2.1, x1.2.2.2.2.2.2.2.2.2.2.2.2.2.2.2.2.2.2.2.2.1, 0)
      ).bind fun r => some (.inr r)
  ) (a.kind, a.n, a.step, a.text, a.list, a.columns, a.rows, 0, 0, 0, [], [], [], [], a.kind, a.n, a.step, a.text, [], [] ++ a.columns, [], 0)
noncomputable def sL3CopyG : Nat → (GVal → Option (GVal))
  | 0 => fun _ => none
  | n + 1 => sL3CopyB (sL3CopyG n)
noncomputable def sL3Copy (a : GVal) : Option (GVal) := (sL3CopyG (siz a + 1)) a
noncomputable def sL3CopyFS : Fsp := { fid := 69, ps := [⟨true, .base .val⟩], rs := [⟨true, .base .val⟩], ex := true, fn := fun x => sL3Copy x }
noncomputable def sL3CopyFSN (n : Nat) : Fsp := { fid := 69, ps := [⟨true, .base .val⟩], rs := [⟨true, .base .val⟩], ex := true, fn := fun x => (sL3CopyG n) x }
noncomputable def sL16Read (a : GRead) : Option (GRead) :=
  (sL3Copy (reVal a.result)).bind fun r1 =>
  some (GRead.mk a.kind a.n a.time a.text (reVal r1))
noncomputable def sL16ReadFS : Fsp := { fid := 49, ps := [⟨true, .base .read⟩], rs := [⟨true, .base .read⟩], ex := true, fn := fun x => sL16Read x }
noncomputable def sL16Reads (a : List GRead) : Option ((List GRead)) :=
  loopD (fun (x1 : (List GRead) × (List GRead) × Int) =>
    bif (decide (x1.2.2 < (x1.1.length : Int))) then
      (idx x1.1 x1.2.2).bind fun e2 =>
      (sL16Read (reRead e2)).bind fun r3 =>
      (gd (x1.2.1.length + [reRead r3].length)).bind fun _ =>
      some (.inl (x1.1, x1.2.1 ++ [reRead r3], w64 (x1.2.2 + 1)))
    else
      some (.inr (x1.2.1))
  ) (a, [], 0)
noncomputable def sL16ReadsFS : Fsp := { fid := 29, ps := [⟨false, .list (.base .read)⟩], rs := [⟨false, .list (.base .read)⟩], ex := true, fn := fun x => sL16Reads x }
noncomputable def sL41Copy (a : GOp) : Option (GOp) :=
  (gd (0 + a.seen.length)).bind fun _ =>
  (sL16Reads a.reads).bind fun r1 =>
  some (GOp.mk a.time a.by_ a.kind ([] ++ a.seen) a.edit a.src a.dst a.cell a.version r1)
noncomputable def sL41CopyFS : Fsp := { fid := 14, ps := [⟨true, .base .op⟩], rs := [⟨true, .base .op⟩], ex := true, fn := fun x => sL41Copy x }
noncomputable def sMergeOps (a : List GOp) (b : List GOp) : Option ((List GOp)) :=
  (gd (0 + a.length)).bind fun _ =>
  (gd (([] ++ a).length + b.length)).bind fun _ =>
  loopD (fun (x1 : (List GOp) × (List GOp) × Int) =>
    bif (decide (x1.2.2 < (x1.2.1.length : Int))) then
      (idx x1.2.1 x1.2.2).bind fun _ =>
      (x1.2.1[x1.2.2.toNat]?).bind fun e3 =>
      (sL42Place x1.1 e3).bind fun r4 =>
      bif (decide (r4 ≥ 0)) then
        some (.inl (x1.1, x1.2.1, w64 (x1.2.2 + 1)))
      else
      loopD (fun (x5 : (List GOp) × (List GOp) × Int × Int) =>
        bif (decide (x5.2.2.2 < (x5.1.length : Int))) then
          (idx x5.1 x5.2.2.2).bind fun _ =>
          (x5.1[x5.2.2.2.toNat]?).bind fun e7 =>
          (idx x5.2.1 x5.2.2.1).bind fun _ =>
          (x5.2.1[x5.2.2.1.toNat]?).bind fun e9 =>
          (sOpBefore e7 e9).bind fun r10 =>
          bif r10 then
            some (.inl (x5.1, x5.2.1, x5.2.2.1, w64 (x5.2.2.2 + 1)))
          else
          (
            (eff.cutL x5.1 none (some x5.2.2.2)).bind fun r11 =>
            (gd (0 + r11.length)).bind fun _ =>
            (idx x5.2.1 x5.2.2.1).bind fun _ =>
            (x5.2.1[x5.2.2.1.toNat]?).bind fun e13 =>
            (sL41Copy e13).bind fun r14 =>
            (gd (([] ++ r11).length + [r14].length)).bind fun _ =>
            (eff.cutL x5.1 (some x5.2.2.2) none).bind fun r15 =>
            (gd ((([] ++ r11) ++ [r14]).length + r15.length)).bind fun _ =>
            some (.inl ((([] ++ r11) ++ [r14]) ++ r15, x5.2.1, w64 (x5.2.2.1 + 1)))
          ).bind fun r => some (.inr r)
        else
        (
          (eff.cutL x5.1 none (some x5.2.2.2)).bind fun r16 =>
          (gd (0 + r16.length)).bind fun _ =>
          (idx x5.2.1 x5.2.2.1).bind fun _ =>
          (x5.2.1[x5.2.2.1.toNat]?).bind fun e18 =>
          (sL41Copy e18).bind fun r19 =>
          (gd (([] ++ r16).length + [r19].length)).bind fun _ =>
          (eff.cutL x5.1 (some x5.2.2.2) none).bind fun r20 =>
          (gd ((([] ++ r16) ++ [r19]).length + r20.length)).bind fun _ =>
          some (.inl ((([] ++ r16) ++ [r19]) ++ r20, x5.2.1, w64 (x5.2.2.1 + 1)))
        ).bind fun r => some (.inr r)
      ) (x1.1, x1.2.1, x1.2.2, 0)
    else
      some (.inr (x1.1))
  ) ([], ([] ++ a) ++ b, 0)
noncomputable def sMergeOpsFS : Fsp := { fid := 5, ps := [⟨false, .list (.base .op)⟩, ⟨false, .list (.base .op)⟩], rs := [⟨false, .list (.base .op)⟩], ex := false, sh := true, fn := fun x => sMergeOps x.1 x.2 }
noncomputable def toIntS (a : List Int) : Option ((List Int)) :=
  (mk (a.length : Int)).bind fun m1 =>
  loopD (fun (x2 : (List Int) × (List Int) × Int) =>
    bif (decide (x2.2.2 < (x2.1.length : Int))) then
      (idx x2.1 x2.2.2).bind fun e3 =>
      (idx x2.2.1 x2.2.2).bind fun _ =>
      (x2.2.1[x2.2.2.toNat]?).bind fun e5 =>
      some (.inl (x2.1, x2.2.1.set x2.2.2.toNat e3, w64 (x2.2.2 + 1)))
    else
      some (.inr (x2.2.1))
  ) (a, List.replicate m1 0, 0)
noncomputable def toIntSFS : Fsp := { fid := 30, ps := [⟨false, .list (.base .int)⟩], rs := [⟨false, .list (.base .int)⟩], ex := true, fn := fun x => toIntS x }
noncomputable def toCell (a : GCell) : Option (GCell) :=
  some (a)
noncomputable def toCellFS : Fsp := { fid := 50, ps := [⟨true, .base .cell⟩], rs := [⟨true, .base .cell⟩], ex := true, fn := fun x => toCell x }
noncomputable def toEdit (a : GEdit) : Option (GEdit) :=
  (toCell a.cell).bind fun r1 =>
  some (GEdit.mk a.kind a.pos r1)
noncomputable def toEditFS : Fsp := { fid := 31, ps := [⟨true, .base .edit⟩], rs := [⟨true, .base .edit⟩], ex := true, fn := fun x => toEdit x }
noncomputable def toStringS (a : List Str) : Option ((List Str)) :=
  (mk (a.length : Int)).bind fun m1 =>
  loopD (fun (x2 : (List Str) × (List Str) × Int) =>
    bif (decide (x2.2.2 < (x2.1.length : Int))) then
      (idx x2.1 x2.2.2).bind fun e3 =>
      (idx x2.2.1 x2.2.2).bind fun _ =>
      (x2.2.1[x2.2.2.toNat]?).bind fun e5 =>
      some (.inl (x2.1, x2.2.1.set x2.2.2.toNat e3, w64 (x2.2.2 + 1)))
    else
      some (.inr (x2.2.1))
  ) (a, List.replicate m1 [], 0)
noncomputable def toStringSFS : Fsp := { fid := 80, ps := [⟨false, .list (.base .str)⟩], rs := [⟨false, .list (.base .str)⟩], ex := true, fn := fun x => toStringS x }
noncomputable def toOrigin (a : GOrigin) : Option (GOrigin) :=
  some (a)
noncomputable def toOriginFS : Fsp := { fid := 92, ps := [⟨true, .base .origin⟩], rs := [⟨true, .base .origin⟩], ex := true, fn := fun x => toOrigin x }
noncomputable def toOriginS (a : List GOrigin) : Option ((List GOrigin)) :=
  (mk (a.length : Int)).bind fun m1 =>
  loopD (fun (x2 : (List GOrigin) × (List GOrigin) × Int) =>
    bif (decide (x2.2.2 < (x2.1.length : Int))) then
      (idx x2.1 x2.2.2).bind fun e3 =>
      (toOrigin e3).bind fun r4 =>
      (idx x2.2.1 x2.2.2).bind fun _ =>
      (x2.2.1[x2.2.2.toNat]?).bind fun e6 =>
      some (.inl (x2.1, x2.2.1.set x2.2.2.toNat r4, w64 (x2.2.2 + 1)))
    else
      some (.inr (x2.2.1))
  ) (a, List.replicate m1 (GOrigin.mk 0 0), 0)
noncomputable def toOriginSFS : Fsp := { fid := 90, ps := [⟨false, .list (.base .origin)⟩], rs := [⟨false, .list (.base .origin)⟩], ex := true, fn := fun x => toOriginS x }
noncomputable def toRow (a : GRow) : Option (GRow) :=
  (toIntS a.cells).bind fun r1 =>
  (toOriginS a.orig).bind fun r2 =>
  some (GRow.mk r1 r2)
noncomputable def toRowFS : Fsp := { fid := 87, ps := [⟨true, .base .row⟩], rs := [⟨true, .base .row⟩], ex := true, fn := fun x => toRow x }
noncomputable def toRowS (a : List GRow) : Option ((List GRow)) :=
  (mk (a.length : Int)).bind fun m1 =>
  loopD (fun (x2 : (List GRow) × (List GRow) × Int) =>
    bif (decide (x2.2.2 < (x2.1.length : Int))) then
      (idx x2.1 x2.2.2).bind fun e3 =>
      (toRow e3).bind fun r4 =>
      (idx x2.2.1 x2.2.2).bind fun _ =>
      (x2.2.1[x2.2.2.toNat]?).bind fun e6 =>
      some (.inl (x2.1, x2.2.1.set x2.2.2.toNat r4, w64 (x2.2.2 + 1)))
    else
      some (.inr (x2.2.1))
  ) (a, List.replicate m1 (GRow.mk [] []), 0)
noncomputable def toRowSFS : Fsp := { fid := 81, ps := [⟨false, .list (.base .row)⟩], rs := [⟨false, .list (.base .row)⟩], ex := true, fn := fun x => toRowS x }
noncomputable def toValueB (rtoValue : GVal → Option (GVal)) (rtoValueS : (List GVal) → Option ((List GVal))) (a : GVal) : Option (GVal) :=
  (rtoValueS a.list).bind fun r1 =>
  (toStringS a.columns).bind fun r2 =>
  (toRowS a.rows).bind fun r3 =>
  some (GVal.mk a.kind a.n a.step a.text r1 r2 r3)
noncomputable def toValueSB (rtoValue : GVal → Option (GVal)) (rtoValueS : (List GVal) → Option ((List GVal))) (a : List GVal) : Option ((List GVal)) :=
  (mk (a.length : Int)).bind fun m1 =>
  loopD (fun (x2 : (List GVal) × (List GVal) × Int) =>
    bif (decide (x2.2.2 < (x2.1.length : Int))) then
      (idx x2.1 x2.2.2).bind fun e3 =>
      (rtoValue (reVal e3)).bind fun r4 =>
      (idx x2.2.1 x2.2.2).bind fun _ =>
      (x2.2.1[x2.2.2.toNat]?).bind fun e6 =>
      some (.inl (x2.1, x2.2.1.set x2.2.2.toNat (reVal r4), w64 (x2.2.2 + 1)))
    else
      some (.inr (x2.2.1))
  ) (a, List.replicate m1 (GVal.mk 0 0 0 [] [] [] []), 0)
noncomputable def toValueG : Nat → (GVal → Option (GVal)) × ((List GVal) → Option ((List GVal)))
  | 0 => (fun _ => none, fun _ => none)
  | n + 1 => (toValueB (toValueG n).1 (toValueG n).2, toValueSB (toValueG n).1 (toValueG n).2)
noncomputable def toValue (a : GVal) : Option (GVal) := (toValueG (siz a + 1)).1 a
noncomputable def toValueFS : Fsp := { fid := 70, ps := [⟨true, .base .val⟩], rs := [⟨true, .base .val⟩], ex := true, fn := fun x => toValue x }
noncomputable def toValueFSN (n : Nat) : Fsp := { fid := 70, ps := [⟨true, .base .val⟩], rs := [⟨true, .base .val⟩], ex := true, fn := fun x => (toValueG n).1 x }
noncomputable def toValueS (a : List GVal) : Option ((List GVal)) := (toValueG (siz a + 1)).2 a
noncomputable def toValueSFS : Fsp := { fid := 79, ps := [⟨false, .list (.base .val)⟩], rs := [⟨false, .list (.base .val)⟩], ex := true, fn := fun x => toValueS x }
noncomputable def toValueSFSN (n : Nat) : Fsp := { fid := 79, ps := [⟨false, .list (.base .val)⟩], rs := [⟨false, .list (.base .val)⟩], ex := true, fn := fun x => (toValueG n).2 x }
noncomputable def toRead (a : GRead) : Option (GRead) :=
  (toValue (reVal a.result)).bind fun r1 =>
  some (GRead.mk a.kind a.n a.time a.text (reVal r1))
noncomputable def toReadFS : Fsp := { fid := 51, ps := [⟨true, .base .read⟩], rs := [⟨true, .base .read⟩], ex := true, fn := fun x => toRead x }
noncomputable def toReadS (a : List GRead) : Option ((List GRead)) :=
  (mk (a.length : Int)).bind fun m1 =>
  loopD (fun (x2 : (List GRead) × (List GRead) × Int) =>
    bif (decide (x2.2.2 < (x2.1.length : Int))) then
      (idx x2.1 x2.2.2).bind fun e3 =>
      (toRead (reRead e3)).bind fun r4 =>
      (idx x2.2.1 x2.2.2).bind fun _ =>
      (x2.2.1[x2.2.2.toNat]?).bind fun e6 =>
      some (.inl (x2.1, x2.2.1.set x2.2.2.toNat (reRead r4), w64 (x2.2.2 + 1)))
    else
      some (.inr (x2.2.1))
  ) (a, List.replicate m1 (GRead.mk 0 0 0 [] (GVal.mk 0 0 0 [] [] [] [])), 0)
noncomputable def toReadSFS : Fsp := { fid := 32, ps := [⟨false, .list (.base .read)⟩], rs := [⟨false, .list (.base .read)⟩], ex := true, fn := fun x => toReadS x }
noncomputable def toOp (a : GOp) : Option (GOp) :=
  (toIntS a.seen).bind fun r1 =>
  (toEdit a.edit).bind fun r2 =>
  (toReadS a.reads).bind fun r3 =>
  some (GOp.mk a.time a.by_ a.kind r1 r2 a.src a.dst a.cell a.version r3)
noncomputable def toOpFS : Fsp := { fid := 15, ps := [⟨true, .base .op⟩], rs := [⟨true, .base .op⟩], ex := true, fn := fun x => toOp x }
noncomputable def toOpS (a : List GOp) : Option ((List GOp)) :=
  (mk (a.length : Int)).bind fun m1 =>
  loopD (fun (x2 : (List GOp) × (List GOp) × Int) =>
    bif (decide (x2.2.2 < (x2.1.length : Int))) then
      (idx x2.1 x2.2.2).bind fun e3 =>
      (toOp e3).bind fun r4 =>
      (idx x2.2.1 x2.2.2).bind fun _ =>
      (x2.2.1[x2.2.2.toNat]?).bind fun e6 =>
      some (.inl (x2.1, x2.2.1.set x2.2.2.toNat r4, w64 (x2.2.2 + 1)))
    else
      some (.inr (x2.2.1))
  ) (a, List.replicate m1 (GOp.mk 0 0 0 [] (GEdit.mk 0 0 (GCell.mk 0 0 0 [] [] 0)) [] [] 0 0 []), 0)
noncomputable def toOpSFS : Fsp := { fid := 6, ps := [⟨false, .list (.base .op)⟩], rs := [⟨false, .list (.base .op)⟩], ex := true, fn := fun x => toOpS x }
noncomputable def iCopyRow (a : GRow) : Option (GRow) :=
  (gd (0 + a.cells.length)).bind fun _ =>
  (gd (0 + a.orig.length)).bind fun _ =>
  some (GRow.mk ([] ++ a.cells) ([] ++ a.orig))
noncomputable def iCopyRowFS : Fsp := { fid := 72, ps := [⟨true, .base .row⟩], rs := [⟨true, .base .row⟩], ex := true, fn := fun x => iCopyRow x }
noncomputable def iCopyValueB (riCopyValue : GVal → Option (GVal)) (riCopyValues : (List GVal) → Option ((List GVal))) (a : GVal) : Option (GVal) :=
  (riCopyValues a.list).bind fun r1 =>
  (gd (0 + a.columns.length)).bind fun _ =>
  loopD (fun (x2 : Int × Int × Int × Str × (List GVal) × (List Str) × (List GRow) × Int × Int × Int × Str × (List GVal) × (List Str) × (List GRow) × (List GRow) × Int × Int) =>
    bif (decide (x2.2.2.2.2.2.2.2.2.2.2.2.2.2.2.2.2 < x2.2.2.2.2.2.2.2.2.2.2.2.2.2.2.2.1)) then
      (idx x2.2.2.2.2.2.2.2.2.2.2.2.2.2.2.1 x2.2.2.2.2.2.2.2.2.2.2.2.2.2.2.2.2).bind fun e3 =>
      (iCopyRow e3).bind fun r4 =>
      (gd (x2.2.2.2.2.2.2.2.2.2.2.2.2.2.1.length + [r4].length)).bind fun _ =>
      some (.inl (x2.1, x2.2.1, x2.2.2.1, x2.2.2.2.1, x2.2.2.2.2.1, x2.2.2.2.2.2.1, x2.2.2.2.2.2.2.1, x2.2.2.2.2.2.2.2.1, x2.2.2.2.2.2.2.2.2.1, x2.2.2.2.2.2.2.2.2.2.1, x2.2.2.2.2.2.2.2.2.2.2.1, x2.2.2.2.2.2.2.2.2.2.2.2.1, x2.2.2.2.2.2.2.2.2.2.2.2.2.1, x2.2.2.2.2.2.2.2.2.2.2.2.2.2.1 ++ [r4], x2.2.2.2.2.2.2.2.2.2.2.2.2.2.2.1, x2.2.2.2.2.2.2.2.2.2.2.2.2.2.2.2.1, w64 (x2.2.2.2.2.2.2.2.2.2.2.2.2.2.2.2.2 + 1)))
    else
      some (.inr (GVal.mk x2.2.2.2.2.2.2.2.1 x2.2.2.2.2.2.2.2.2.1 x2.2.2.2.2.2.2.2.2.2.1 x2.2.2.2.2.2.2.2.2.2.2.1 x2.2.2.2.2.2.2.2.2.2.2.2.1 x2.2.2.2.2.2.2.2.2.2.2.2.2.1 x2.2.2.2.2.2.2.2.2.2.2.2.2.2.1))
  ) (0, 0, 0, [], [], [], [], a.kind, a.n, a.step, a.text, r1, [] ++ a.columns, [], a.rows, (a.rows.length : Int), 0)
noncomputable def iCopyValuesB (riCopyValue : GVal → Option (GVal)) (riCopyValues : (List GVal) → Option ((List GVal))) (a : List GVal) : Option ((List GVal)) :=
  loopD (fun (x1 : (List GVal) × (List GVal) × Int × Int) =>
    bif (decide (x1.2.2.2 < x1.2.2.1)) then
      (idx x1.2.1 x1.2.2.2).bind fun e2 =>
      (riCopyValue (reVal e2)).bind fun r3 =>
      (gd (x1.1.length + [reVal r3].length)).bind fun _ =>
      some (.inl (x1.1 ++ [reVal r3], x1.2.1, x1.2.2.1, w64 (x1.2.2.2 + 1)))
    else
      some (.inr (x1.1))
  ) ([], a, (a.length : Int), 0)
noncomputable def iCopyValueG : Nat → (GVal → Option (GVal)) × ((List GVal) → Option ((List GVal)))
  | 0 => (fun _ => none, fun _ => none)
  | n + 1 => (iCopyValueB (iCopyValueG n).1 (iCopyValueG n).2, iCopyValuesB (iCopyValueG n).1 (iCopyValueG n).2)
noncomputable def iCopyValue (a : GVal) : Option (GVal) := (iCopyValueG (siz a + 1)).1 a
noncomputable def iCopyValueFS : Fsp := { fid := 52, ps := [⟨true, .base .val⟩], rs := [⟨true, .base .val⟩], ex := true, fn := fun x => iCopyValue x }
noncomputable def iCopyValueFSN (n : Nat) : Fsp := { fid := 52, ps := [⟨true, .base .val⟩], rs := [⟨true, .base .val⟩], ex := true, fn := fun x => (iCopyValueG n).1 x }
noncomputable def iCopyValues (a : List GVal) : Option ((List GVal)) := (iCopyValueG (siz a + 1)).2 a
noncomputable def iCopyValuesFS : Fsp := { fid := 71, ps := [⟨false, .list (.base .val)⟩], rs := [⟨false, .list (.base .val)⟩], ex := true, fn := fun x => iCopyValues x }
noncomputable def iCopyValuesFSN (n : Nat) : Fsp := { fid := 71, ps := [⟨false, .list (.base .val)⟩], rs := [⟨false, .list (.base .val)⟩], ex := true, fn := fun x => (iCopyValueG n).2 x }
noncomputable def iCopyReads (a : List GRead) : Option ((List GRead)) :=
  loopD (fun (x1 : (List GRead) × (List GRead) × Int × Int) =>
    bif (decide (x1.2.2.2 < x1.2.2.1)) then
      (idx x1.2.1 x1.2.2.2).bind fun e2 =>
      (iCopyValue (reVal e2.result)).bind fun r3 =>
      (gd (x1.1.length + [GRead.mk e2.kind e2.n e2.time e2.text (reVal r3)].length)).bind fun _ =>
      some (.inl (x1.1 ++ [GRead.mk e2.kind e2.n e2.time e2.text (reVal r3)], x1.2.1, x1.2.2.1, w64 (x1.2.2.2 + 1)))
    else
      some (.inr (x1.1))
  ) ([], a, (a.length : Int), 0)
noncomputable def iCopyReadsFS : Fsp := { fid := 33, ps := [⟨false, .list (.base .read)⟩], rs := [⟨false, .list (.base .read)⟩], ex := true, fn := fun x => iCopyReads x }
noncomputable def iCopyOp (a : GOp) : Option (GOp) :=
  (gd (0 + a.seen.length)).bind fun _ =>
  (iCopyReads a.reads).bind fun r1 =>
  some (GOp.mk a.time a.by_ a.kind ([] ++ a.seen) a.edit a.src a.dst a.cell a.version r1)
noncomputable def iCopyOpFS : Fsp := { fid := 16, ps := [⟨true, .base .op⟩], rs := [⟨true, .base .op⟩], ex := true, fn := fun x => iCopyOp x }
noncomputable def iOpBefore (a : GOp) (b : GOp) : Option (Bool) :=
  bif (decide (a.time < b.time)) then
    some (true)
  else
    bif (a.time == b.time) then
      some ((decide (a.by_ < b.by_)))
    else
      some (false)
noncomputable def iOpBeforeFS : Fsp := { fid := 19, ps := [⟨true, .base .op⟩, ⟨true, .base .op⟩], rs := [⟨false, .base .bool⟩], ex := true, fn := fun x => iOpBefore x.1 x.2 }
/-- the list in order, if its entries can be put in strict order -/
noncomputable def sortMergeOps (xs : List GOp) : Option (List GOp) := (gd xs.length).bind fun _ => sortD (fun a b => iOpBefore a b == some true) xs
noncomputable def srtMergeOps : Srt := { fid := 17, g := 18, T := 24, t := .base .op, fn := sortMergeOps }
noncomputable def iMergeOps (a : List GOp) (b : List GOp) : Option ((List GOp)) :=
  (gd (0 + a.length)).bind fun _ =>
  (gd (([] ++ a).length + b.length)).bind fun _ =>
  loopD (fun (x1 : (List GOp) × (List GOp) × Int × Int) =>
    bif (decide (x1.2.2.2 < x1.2.2.1)) then
      (idx x1.2.1 x1.2.2.2).bind fun _ =>
      (x1.2.1[x1.2.2.2.toNat]?).bind fun e3 =>
      loopD (fun (x4 : (List GOp) × Int × Int × Int × (List Int) × Int × Int × Int × Int × Int × Str × Str × Int × Str × Str × Int × Int × (List GRead) × Bool × (List GOp) × Int × Int × Int × Int) =>
        bif (decide (x4.2.2.2.2.2.2.2.2.2.2.2.2.2.2.2.2.2.2.2.2.2.2.2 < x4.2.2.2.2.2.2.2.2.2.2.2.2.2.2.2.2.2.2.2.2.2.2.1)) then
          (idx x4.1 x4.2.2.2.2.2.2.2.2.2.2.2.2.2.2.2.2.2.2.2.2.2.2.2).bind fun _ =>
          (x4.1[x4.2.2.2.2.2.2.2.2.2.2.2.2.2.2.2.2.2.2.2.2.2.2.2.toNat]?).bind fun e6 =>
          bif x4.2.2.2.2.2.2.2.2.2.2.2.2.2.2.2.2.2.2.1 then
            some (.inl (x4.1, x4.2.1, x4.2.2.1, x4.2.2.2.1, x4.2.2.2.2.1, x4.2.2.2.2.2.1, x4.2.2.2.2.2.2.1, x4.2.2.2.2.2.2.2.1, x4.2.2.2.2.2.2.2.2.1, x4.2.2.2.2.2.2.2.2.2.1, x4.2.2.2.2.2.2.2.2.2.2.1, x4.2.2.2.2.2.2.2.2.2.2.2.1, x4.2.2.2.2.2.2.2.2.2.2.2.2.1, x4.2.2.2.2.2.2.2.2.2.2.2.2.2.1, x4.2.2.2.2.2.2.2.2.2.2.2.2.2.2.1, x4.2.2.2.2.2.2.2.2.2.2.2.2.2.2.2.1, x4.2.2.2.2.2.2.2.2.2.2.2.2.2.2.2.2.1, x4.2.2.2.2.2.2.2.2.2.2.2.2.2.2.2.2.2.1, true, x4.2.2.2.2.2.2.2.2.2.2.2.2.2.2.2.2.2.2.2.1, x4.2.2.2.2.2.2.2.2.2.2.2.2.2.2.2.2.2.2.2.2.1, x4.2.2.2.2.2.2.2.2.2.2.2.2.2.2.2.2.2.2.2.2.2.1, x4.2.2.2.2.2.2.2.2.2.2.2.2.2.2.2.2.2.2.2.2.2.2.1, w64 (x4.2.2.2.2.2.2.2.2.2.2.2.2.2.2.2.2.2.2.2.2.2.2.2 + 1)))
          else
            bif (e6.time == x4.2.1) then
              some (.inl (x4.1, x4.2.1, x4.2.2.1, x4.2.2.2.1, x4.2.2.2.2.1, x4.2.2.2.2.2.1, x4.2.2.2.2.2.2.1, x4.2.2.2.2.2.2.2.1, x4.2.2.2.2.2.2.2.2.1, x4.2.2.2.2.2.2.2.2.2.1, x4.2.2.2.2.2.2.2.2.2.2.1, x4.2.2.2.2.2.2.2.2.2.2.2.1, x4.2.2.2.2.2.2.2.2.2.2.2.2.1, x4.2.2.2.2.2.2.2.2.2.2.2.2.2.1, x4.2.2.2.2.2.2.2.2.2.2.2.2.2.2.1, x4.2.2.2.2.2.2.2.2.2.2.2.2.2.2.2.1, x4.2.2.2.2.2.2.2.2.2.2.2.2.2.2.2.2.1, x4.2.2.2.2.2.2.2.2.2.2.2.2.2.2.2.2.2.1, (e6.by_ == x4.2.2.1), x4.2.2.2.2.2.2.2.2.2.2.2.2.2.2.2.2.2.2.2.1, x4.2.2.2.2.2.2.2.2.2.2.2.2.2.2.2.2.2.2.2.2.1, x4.2.2.2.2.2.2.2.2.2.2.2.2.2.2.2.2.2.2.2.2.2.1, x4.2.2.2.2.2.2.2.2.2.2.2.2.2.2.2.2.2.2.2.2.2.2.1, w64 (x4.2.2.2.2.2.2.2.2.2.2.2.2.2.2.2.2.2.2.2.2.2.2.2 + 1)))
            else
              some (.inl (x4.1, x4.2.1, x4.2.2.1, x4.2.2.2.1, x4.2.2.2.2.1, x4.2.2.2.2.2.1, x4.2.2.2.2.2.2.1, x4.2.2.2.2.2.2.2.1, x4.2.2.2.2.2.2.2.2.1, x4.2.2.2.2.2.2.2.2.2.1, x4.2.2.2.2.2.2.2.2.2.2.1, x4.2.2.2.2.2.2.2.2.2.2.2.1, x4.2.2.2.2.2.2.2.2.2.2.2.2.1, x4.2.2.2.2.2.2.2.2.2.2.2.2.2.1, x4.2.2.2.2.2.2.2.2.2.2.2.2.2.2.1, x4.2.2.2.2.2.2.2.2.2.2.2.2.2.2.2.1, x4.2.2.2.2.2.2.2.2.2.2.2.2.2.2.2.2.1, x4.2.2.2.2.2.2.2.2.2.2.2.2.2.2.2.2.2.1, false, x4.2.2.2.2.2.2.2.2.2.2.2.2.2.2.2.2.2.2.2.1, x4.2.2.2.2.2.2.2.2.2.2.2.2.2.2.2.2.2.2.2.2.1, x4.2.2.2.2.2.2.2.2.2.2.2.2.2.2.2.2.2.2.2.2.2.1, x4.2.2.2.2.2.2.2.2.2.2.2.2.2.2.2.2.2.2.2.2.2.2.1, w64 (x4.2.2.2.2.2.2.2.2.2.2.2.2.2.2.2.2.2.2.2.2.2.2.2 + 1)))
        else
          (
            bif (!x4.2.2.2.2.2.2.2.2.2.2.2.2.2.2.2.2.2.2.1) then
              (iCopyOp (GOp.mk x4.2.1 x4.2.2.1 x4.2.2.2.1 x4.2.2.2.2.1 (GEdit.mk x4.2.2.2.2.2.1 x4.2.2.2.2.2.2.1 (GCell.mk x4.2.2.2.2.2.2.2.1 x4.2.2.2.2.2.2.2.2.1 x4.2.2.2.2.2.2.2.2.2.1 x4.2.2.2.2.2.2.2.2.2.2.1 x4.2.2.2.2.2.2.2.2.2.2.2.1 x4.2.2.2.2.2.2.2.2.2.2.2.2.1)) x4.2.2.2.2.2.2.2.2.2.2.2.2.2.1 x4.2.2.2.2.2.2.2.2.2.2.2.2.2.2.1 x4.2.2.2.2.2.2.2.2.2.2.2.2.2.2.2.1 x4.2.2.2.2.2.2.2.2.2.2.2.2.2.2.2.2.1 x4.2.2.2.2.2.2.2.2.2.2.2.2.2.2.2.2.2.1)).bind fun r7 =>
              (gd (x4.1.length + [r7].length)).bind fun _ =>
              some (.inl (x4.1 ++ [r7], x4.2.2.2.2.2.2.2.2.2.2.2.2.2.2.2.2.2.2.2.1, x4.2.2.2.2.2.2.2.2.2.2.2.2.2.2.2.2.2.2.2.2.1, w64 (x4.2.2.2.2.2.2.2.2.2.2.2.2.2.2.2.2.2.2.2.2.2.1 + 1)))
            else
              some (.inl (x4.1, x4.2.2.2.2.2.2.2.2.2.2.2.2.2.2.2.2.2.2.2.1, x4.2.2.2.2.2.2.2.2.2.2.2.2.2.2.2.2.2.2.2.2.1, w64 (x4.2.2.2.2.2.2.2.2.2.2.2.2.2.2.2.2.2.2.2.2.2.1 + 1)))
          ).bind fun r => some (.inr r)
      ) (x1.1, e3.time, e3.by_, e3.kind, e3.seen, e3.edit.kind, e3.edit.pos, e3.edit.cell.id, e3.edit.cell.version, e3.edit.cell.kind, e3.edit.cell.name, e3.edit.cell.code, e3.edit.cell.n, e3.src, e3.dst, e3.cell, e3.version, e3.reads, false, x1.2.1, x1.2.2.1, x1.2.2.2, (x1.1.length : Int), 0)
    else
      (
        (sortMergeOps x1.1).bind fun y8 =>
        some (y8)
      ).bind fun r => some (.inr r)
  ) ([], ([] ++ a) ++ b, ((([] ++ a) ++ b).length : Int), 0)
noncomputable def iMergeOpsFS : Fsp := { fid := 7, ps := [⟨false, .list (.base .op)⟩, ⟨false, .list (.base .op)⟩], rs := [⟨false, .list (.base .op)⟩], ex := true, fn := fun x => iMergeOps x.1 x.2 }
noncomputable def eqIntS (a : List Int) (b : List Int) : Option (Bool) :=
  bif ((a.length : Int) != (b.length : Int)) then
    some (false)
  else
  loopD (fun (x1 : (List Int) × (List Int) × Int) =>
    bif (decide (x1.2.2 < (x1.1.length : Int))) then
      (idx x1.1 x1.2.2).bind fun e2 =>
      (idx x1.2.1 x1.2.2).bind fun e3 =>
      bif (e2 != e3) then
        some (.inr (false))
      else
        some (.inl (x1.1, x1.2.1, w64 (x1.2.2 + 1)))
    else
      some (.inr (true))
  ) (a, b, 0)
noncomputable def eqIntSFS : Fsp := { fid := 38, ps := [⟨false, .list (.base .int)⟩, ⟨false, .list (.base .int)⟩], rs := [⟨false, .base .bool⟩], ex := true, fn := fun x => eqIntS x.1 x.2 }
noncomputable def eqCell (a : GCell) (b : GCell) : Option (Bool) :=
  bif (a.id != b.id) then
    some (false)
  else
  bif (a.version != b.version) then
    some (false)
  else
  bif (a.kind != b.kind) then
    some (false)
  else
    bif (!(a.name == b.name)) then
      some (false)
    else
      bif (!(a.code == b.code)) then
        some (false)
      else
        bif (a.n != b.n) then
          some (false)
        else
          some (true)
noncomputable def eqCellFS : Fsp := { fid := 64, ps := [⟨true, .base .cell⟩, ⟨true, .base .cell⟩], rs := [⟨false, .base .bool⟩], ex := true, fn := fun x => eqCell x.1 x.2 }
noncomputable def eqEdit (a : GEdit) (b : GEdit) : Option (Bool) :=
  bif (a.kind != b.kind) then
    some (false)
  else
    bif (a.pos != b.pos) then
      some (false)
    else
      (eqCell a.cell b.cell).bind fun r1 =>
      bif (!r1) then
        some (false)
      else
        some (true)
noncomputable def eqEditFS : Fsp := { fid := 39, ps := [⟨true, .base .edit⟩, ⟨true, .base .edit⟩], rs := [⟨false, .base .bool⟩], ex := true, fn := fun x => eqEdit x.1 x.2 }
noncomputable def eqStringS (a : List Str) (b : List Str) : Option (Bool) :=
  bif ((a.length : Int) != (b.length : Int)) then
    some (false)
  else
  loopD (fun (x1 : (List Str) × (List Str) × Int) =>
    bif (decide (x1.2.2 < (x1.1.length : Int))) then
      (idx x1.1 x1.2.2).bind fun e2 =>
      (idx x1.2.1 x1.2.2).bind fun e3 =>
      bif (!(e2 == e3)) then
        some (.inr (false))
      else
        some (.inl (x1.1, x1.2.1, w64 (x1.2.2 + 1)))
    else
      some (.inr (true))
  ) (a, b, 0)
noncomputable def eqStringSFS : Fsp := { fid := 84, ps := [⟨false, .list (.base .str)⟩, ⟨false, .list (.base .str)⟩], rs := [⟨false, .base .bool⟩], ex := true, fn := fun x => eqStringS x.1 x.2 }
noncomputable def eqOrigin (a : GOrigin) (b : GOrigin) : Option (Bool) :=
  bif (a.cell != b.cell) then
    some (false)
  else
    bif (a.row != b.row) then
      some (false)
    else
      some (true)
noncomputable def eqOriginFS : Fsp := { fid := 93, ps := [⟨true, .base .origin⟩, ⟨true, .base .origin⟩], rs := [⟨false, .base .bool⟩], ex := true, fn := fun x => eqOrigin x.1 x.2 }
noncomputable def eqOriginS (a : List GOrigin) (b : List GOrigin) : Option (Bool) :=
  bif ((a.length : Int) != (b.length : Int)) then
    some (false)
  else
  loopD (fun (x1 : (List GOrigin) × (List GOrigin) × Int) =>
    bif (decide (x1.2.2 < (x1.1.length : Int))) then
      (idx x1.1 x1.2.2).bind fun e2 =>
      (idx x1.2.1 x1.2.2).bind fun e3 =>
      (eqOrigin e2 e3).bind fun r4 =>
      bif (!r4) then
        some (.inr (false))
      else
        some (.inl (x1.1, x1.2.1, w64 (x1.2.2 + 1)))
    else
      some (.inr (true))
  ) (a, b, 0)
noncomputable def eqOriginSFS : Fsp := { fid := 91, ps := [⟨false, .list (.base .origin)⟩, ⟨false, .list (.base .origin)⟩], rs := [⟨false, .base .bool⟩], ex := true, fn := fun x => eqOriginS x.1 x.2 }
noncomputable def eqRow (a : GRow) (b : GRow) : Option (Bool) :=
  (eqIntS a.cells b.cells).bind fun r1 =>
  bif (!r1) then
    some (false)
  else
    (eqOriginS a.orig b.orig).bind fun r2 =>
    bif (!r2) then
      some (false)
    else
      some (true)
noncomputable def eqRowFS : Fsp := { fid := 88, ps := [⟨true, .base .row⟩, ⟨true, .base .row⟩], rs := [⟨false, .base .bool⟩], ex := true, fn := fun x => eqRow x.1 x.2 }
noncomputable def eqRowS (a : List GRow) (b : List GRow) : Option (Bool) :=
  bif ((a.length : Int) != (b.length : Int)) then
    some (false)
  else
  loopD (fun (x1 : (List GRow) × (List GRow) × Int) =>
    bif (decide (x1.2.2 < (x1.1.length : Int))) then
      (idx x1.1 x1.2.2).bind fun e2 =>
      (idx x1.2.1 x1.2.2).bind fun e3 =>
      (eqRow e2 e3).bind fun r4 =>
      bif (!r4) then
        some (.inr (false))
      else
        some (.inl (x1.1, x1.2.1, w64 (x1.2.2 + 1)))
    else
      some (.inr (true))
  ) (a, b, 0)
noncomputable def eqRowSFS : Fsp := { fid := 85, ps := [⟨false, .list (.base .row)⟩, ⟨false, .list (.base .row)⟩], rs := [⟨false, .base .bool⟩], ex := true, fn := fun x => eqRowS x.1 x.2 }
noncomputable def eqValueB (reqValue : GVal → GVal → Option (Bool)) (reqValueS : (List GVal) → (List GVal) → Option (Bool)) (a : GVal) (b : GVal) : Option (Bool) :=
  bif (a.kind != b.kind) then
    some (false)
  else
  bif (a.n != b.n) then
    some (false)
  else
  bif (a.step != b.step) then
    some (false)
  else
  bif (!(a.text == b.text)) then
    some (false)
  else
  (reqValueS a.list b.list).bind fun r1 =>
  bif (!r1) then
    some (false)
  else
    (eqStringS a.columns b.columns).bind fun r2 =>
    bif (!r2) then
      some (false)
    else
      (eqRowS a.rows b.rows).bind fun r3 =>
      bif (!r3) then
        some (false)
      else
        some (true)
noncomputable def eqValueSB (reqValue : GVal → GVal → Option (Bool)) (reqValueS : (List GVal) → (List GVal) → Option (Bool)) (a : List GVal) (b : List GVal) : Option (Bool) :=
  bif ((a.length : Int) != (b.length : Int)) then
    some (false)
  else
  loopD (fun (x1 : (List GVal) × (List GVal) × Int) =>
    bif (decide (x1.2.2 < (x1.1.length : Int))) then
      (idx x1.1 x1.2.2).bind fun e2 =>
      (idx x1.2.1 x1.2.2).bind fun e3 =>
      (reqValue (reVal e2) (reVal e3)).bind fun r4 =>
      bif (!r4) then
        some (.inr (false))
      else
        some (.inl (x1.1, x1.2.1, w64 (x1.2.2 + 1)))
    else
      some (.inr (true))
  ) (a, b, 0)
noncomputable def eqValueG : Nat → (GVal → GVal → Option (Bool)) × ((List GVal) → (List GVal) → Option (Bool))
  | 0 => (fun _ _ => none, fun _ _ => none)
  | n + 1 => (eqValueB (eqValueG n).1 (eqValueG n).2, eqValueSB (eqValueG n).1 (eqValueG n).2)
noncomputable def eqValue (a : GVal) (b : GVal) : Option (Bool) := (eqValueG (siz a + siz b + 1)).1 a b
noncomputable def eqValueFS : Fsp := { fid := 74, ps := [⟨true, .base .val⟩, ⟨true, .base .val⟩], rs := [⟨false, .base .bool⟩], ex := true, fn := fun x => eqValue x.1 x.2 }
noncomputable def eqValueFSN (n : Nat) : Fsp := { fid := 74, ps := [⟨true, .base .val⟩, ⟨true, .base .val⟩], rs := [⟨false, .base .bool⟩], ex := true, fn := fun x => (eqValueG n).1 x.1 x.2 }
noncomputable def eqValueS (a : List GVal) (b : List GVal) : Option (Bool) := (eqValueG (siz a + siz b + 1)).2 a b
noncomputable def eqValueSFS : Fsp := { fid := 83, ps := [⟨false, .list (.base .val)⟩, ⟨false, .list (.base .val)⟩], rs := [⟨false, .base .bool⟩], ex := true, fn := fun x => eqValueS x.1 x.2 }
noncomputable def eqValueSFSN (n : Nat) : Fsp := { fid := 83, ps := [⟨false, .list (.base .val)⟩, ⟨false, .list (.base .val)⟩], rs := [⟨false, .base .bool⟩], ex := true, fn := fun x => (eqValueG n).2 x.1 x.2 }
noncomputable def eqRead (a : GRead) (b : GRead) : Option (Bool) :=
  bif (a.kind != b.kind) then
    some (false)
  else
  bif (a.n != b.n) then
    some (false)
  else
  bif (a.time != b.time) then
    some (false)
  else
    bif (!(a.text == b.text)) then
      some (false)
    else
      (eqValue (reVal a.result) (reVal b.result)).bind fun r1 =>
      bif (!r1) then
        some (false)
      else
        some (true)
noncomputable def eqReadFS : Fsp := { fid := 65, ps := [⟨true, .base .read⟩, ⟨true, .base .read⟩], rs := [⟨false, .base .bool⟩], ex := true, fn := fun x => eqRead x.1 x.2 }
noncomputable def eqReadS (a : List GRead) (b : List GRead) : Option (Bool) :=
  bif ((a.length : Int) != (b.length : Int)) then
    some (false)
  else
  loopD (fun (x1 : (List GRead) × (List GRead) × Int) =>
    bif (decide (x1.2.2 < (x1.1.length : Int))) then
      (idx x1.1 x1.2.2).bind fun e2 =>
      (idx x1.2.1 x1.2.2).bind fun e3 =>
      (eqRead (reRead e2) (reRead e3)).bind fun r4 =>
      bif (!r4) then
        some (.inr (false))
      else
        some (.inl (x1.1, x1.2.1, w64 (x1.2.2 + 1)))
    else
      some (.inr (true))
  ) (a, b, 0)
noncomputable def eqReadSFS : Fsp := { fid := 40, ps := [⟨false, .list (.base .read)⟩, ⟨false, .list (.base .read)⟩], rs := [⟨false, .base .bool⟩], ex := true, fn := fun x => eqReadS x.1 x.2 }
noncomputable def eqOp (a : GOp) (b : GOp) : Option (Bool) :=
  bif (a.time != b.time) then
    some (false)
  else
  bif (a.by_ != b.by_) then
    some (false)
  else
  bif (a.kind != b.kind) then
    some (false)
  else
  (eqIntS a.seen b.seen).bind fun r1 =>
  bif (!r1) then
    some (false)
  else
  (eqEdit a.edit b.edit).bind fun r2 =>
  bif (!r2) then
    some (false)
  else
  bif (!(a.src == b.src)) then
    some (false)
  else
  bif (!(a.dst == b.dst)) then
    some (false)
  else
  bif (a.cell != b.cell) then
    some (false)
  else
    bif (a.version != b.version) then
      some (false)
    else
      (eqReadS a.reads b.reads).bind fun r3 =>
      bif (!r3) then
        some (false)
      else
        some (true)
noncomputable def eqOpFS : Fsp := { fid := 20, ps := [⟨true, .base .op⟩, ⟨true, .base .op⟩], rs := [⟨false, .base .bool⟩], ex := true, fn := fun x => eqOp x.1 x.2 }
noncomputable def eqOpS (a : List GOp) (b : List GOp) : Option (Bool) :=
  bif ((a.length : Int) != (b.length : Int)) then
    some (false)
  else
  loopD (fun (x1 : (List GOp) × (List GOp) × Int) =>
    bif (decide (x1.2.2 < (x1.1.length : Int))) then
      (idx x1.1 x1.2.2).bind fun e2 =>
      (idx x1.2.1 x1.2.2).bind fun e3 =>
      (eqOp e2 e3).bind fun r4 =>
      bif (!r4) then
        some (.inr (false))
      else
        some (.inl (x1.1, x1.2.1, w64 (x1.2.2 + 1)))
    else
      some (.inr (true))
  ) (a, b, 0)
noncomputable def eqOpSFS : Fsp := { fid := 8, ps := [⟨false, .list (.base .op)⟩, ⟨false, .list (.base .op)⟩], rs := [⟨false, .base .bool⟩], ex := true, fn := fun x => eqOpS x.1 x.2 }
noncomputable def markIntS (a : List Int) (b : Int) : Option (List Int × Int) :=
  loopD (fun (x : List Int × Int × Int) =>
    bif (decide (x.2.1 < (x.1.length : Int))) then
      (idx x.1 x.2.1).bind fun _ =>
      (x.1[x.2.1.toNat]?).bind fun e1 =>
      (some (x.1.set x.2.1.toNat x.2.2)).bind fun z2 =>
      some (.inl (z2, w64 (x.2.1 + 1), w64 (x.2.2 + 1)))
    else
      some (.inr (x.1, x.2.2))
  ) (a, 0, b)
noncomputable def markIntSMS : Msp := { fid := 21, sh := ⟨false, .list (.base .int)⟩, fn := fun x n => markIntS x n }
noncomputable def markText (a : Int) : Option (Str) :=
  bif (decide (a ≤ 0)) then
    some ([109, 48])
  else
    loopD (fun (x1 : Int × Str) =>
      bif (decide (x1.1 > 0)) then
        (gd ((bytesOf [w8 (w64 (48 + (x1.1.tmod 10)))]).length + x1.2.length)).bind fun _ =>
        some (.inl (w64 (x1.1.tdiv 10), (bytesOf [w8 (w64 (48 + (x1.1.tmod 10)))]) ++ x1.2))
      else
        (
          (gd ([109].length + x1.2.length)).bind fun _ =>
          some ([109] ++ x1.2)
        ).bind fun r => some (.inr r)
    ) (a, [])
noncomputable def markTextFS : Fsp := { fid := 22, ps := [⟨false, .base .int⟩], rs := [⟨false, .base .str⟩], ex := true, fn := fun x => markText x }
noncomputable def markStringS (a : List Str) (b : Int) : Option (List Str × Int) :=
  loopD (fun (x : List Str × Int × Int) =>
    bif (decide (x.2.1 < (x.1.length : Int))) then
      (markText x.2.2).bind fun t1 =>
      (idx x.1 x.2.1).bind fun _ =>
      (x.1[x.2.1.toNat]?).bind fun e2 =>
      (some (x.1.set x.2.1.toNat t1)).bind fun z3 =>
      some (.inl (z3, w64 (x.2.1 + 1), w64 (x.2.2 + 1)))
    else
      some (.inr (x.1, x.2.2))
  ) (a, 0, b)
noncomputable def markStringSMS : Msp := { fid := 42, sh := ⟨false, .list (.base .str)⟩, fn := fun x n => markStringS x n }
noncomputable def markOriginS (a : List GOrigin) (b : Int) : Option (List GOrigin × Int) :=
  loopD (fun (x : List GOrigin × Int × Int) =>
    bif (decide (x.2.1 < (x.1.length : Int))) then
      (idx x.1 x.2.1).bind fun _ =>
      (x.1[x.2.1.toNat]?).bind fun e1 =>
      (some (x.1.set x.2.1.toNat (GOrigin.mk x.2.2 e1.row))).bind fun z2 =>
      (idx z2 x.2.1).bind fun _ =>
      (z2[x.2.1.toNat]?).bind fun e3 =>
      (some (z2.set x.2.1.toNat (GOrigin.mk e3.cell (w64 (x.2.2 + 1))))).bind fun z4 =>
      some (.inl (z4, w64 (x.2.1 + 1), w64 ((w64 (x.2.2 + 1)) + 1)))
    else
      some (.inr (x.1, x.2.2))
  ) (a, 0, b)
noncomputable def markOriginSMS : Msp := { fid := 66, sh := ⟨false, .list (.base .origin)⟩, fn := fun x n => markOriginS x n }
noncomputable def markRowS (a : List GRow) (b : Int) : Option (List GRow × Int) :=
  loopD (fun (x : List GRow × Int × Int) =>
    bif (decide (x.2.1 < (x.1.length : Int))) then
      (idx x.1 x.2.1).bind fun _ =>
      (x.1[x.2.1.toNat]?).bind fun e1 =>
      (x.1[x.2.1.toNat]?).bind fun e2 =>
      (markIntS e2.cells x.2.2).bind fun r3 =>
      (some (x.1.set x.2.1.toNat (GRow.mk r3.1 e2.orig))).bind fun z4 =>
      (idx z4 x.2.1).bind fun _ =>
      (z4[x.2.1.toNat]?).bind fun e5 =>
      (z4[x.2.1.toNat]?).bind fun e6 =>
      (markOriginS e6.orig r3.2).bind fun r7 =>
      (some (z4.set x.2.1.toNat (GRow.mk e6.cells r7.1))).bind fun z8 =>
      some (.inl (z8, w64 (x.2.1 + 1), r7.2))
    else
      some (.inr (x.1, x.2.2))
  ) (a, 0, b)
noncomputable def markRowSMS : Msp := { fid := 43, sh := ⟨false, .list (.base .row)⟩, fn := fun x n => markRowS x n }
noncomputable def markValueSB (rmarkValueS : (List GVal) → Int → Option (List GVal × Int)) (a : List GVal) (b : Int) : Option (List GVal × Int) :=
  loopD (fun (x : List GVal × Int × Int) =>
    bif (decide (x.2.1 < (x.1.length : Int))) then
      (idx x.1 x.2.1).bind fun _ =>
      (x.1[x.2.1.toNat]?).bind fun e1 =>
      (some (x.1.set x.2.1.toNat (GVal.mk x.2.2 e1.n e1.step e1.text e1.list e1.columns e1.rows))).bind fun z2 =>
      (idx z2 x.2.1).bind fun _ =>
      (z2[x.2.1.toNat]?).bind fun e3 =>
      (some (z2.set x.2.1.toNat (GVal.mk e3.kind (w64 (x.2.2 + 1)) e3.step e3.text e3.list e3.columns e3.rows))).bind fun z4 =>
      (idx z4 x.2.1).bind fun _ =>
      (z4[x.2.1.toNat]?).bind fun e5 =>
      (some (z4.set x.2.1.toNat (GVal.mk e5.kind e5.n (w64 ((w64 (x.2.2 + 1)) + 1)) e5.text e5.list e5.columns e5.rows))).bind fun z6 =>
      (markText (w64 ((w64 ((w64 (x.2.2 + 1)) + 1)) + 1))).bind fun t7 =>
      (idx z6 x.2.1).bind fun _ =>
      (z6[x.2.1.toNat]?).bind fun e8 =>
      (some (z6.set x.2.1.toNat (GVal.mk e8.kind e8.n e8.step t7 e8.list e8.columns e8.rows))).bind fun z9 =>
      (idx z9 x.2.1).bind fun _ =>
      (z9[x.2.1.toNat]?).bind fun e10 =>
      (z9[x.2.1.toNat]?).bind fun e11 =>
      (rmarkValueS e11.list (w64 ((w64 ((w64 ((w64 (x.2.2 + 1)) + 1)) + 1)) + 1))).bind fun r12 =>
      (some (z9.set x.2.1.toNat (GVal.mk e11.kind e11.n e11.step e11.text r12.1 e11.columns e11.rows))).bind fun z13 =>
      (idx z13 x.2.1).bind fun _ =>
      (z13[x.2.1.toNat]?).bind fun e14 =>
      (z13[x.2.1.toNat]?).bind fun e15 =>
      (markStringS e15.columns r12.2).bind fun r16 =>
      (some (z13.set x.2.1.toNat (GVal.mk e15.kind e15.n e15.step e15.text e15.list r16.1 e15.rows))).bind fun z17 =>
      (idx z17 x.2.1).bind fun _ =>
      (z17[x.2.1.toNat]?).bind fun e18 =>
      (z17[x.2.1.toNat]?).bind fun e19 =>
      (markRowS e19.rows r16.2).bind fun r20 =>
      (some (z17.set x.2.1.toNat (GVal.mk e19.kind e19.n e19.step e19.text e19.list e19.columns r20.1))).bind fun z21 =>
      some (.inl (z21, w64 (x.2.1 + 1), r20.2))
    else
      some (.inr (x.1, x.2.2))
  ) (a, 0, b)
noncomputable def markValueSG : Nat → (List GVal) → Int → Option (List GVal × Int)
  | 0 => fun _ _ => none
  | n + 1 => markValueSB (markValueSG n)
noncomputable def markValueS (a : List GVal) (b : Int) : Option (List GVal × Int) := markValueSG (siz a + 1) a b
noncomputable def markValueSMSN (k : Nat) : Msp := { fid := 41, sh := ⟨false, .list (.base .val)⟩, fn := fun x n => markValueSG k x n }
noncomputable def markValueSMS : Msp := { fid := 41, sh := ⟨false, .list (.base .val)⟩, fn := fun x n => markValueS x n }
noncomputable def markReadS (a : List GRead) (b : Int) : Option (List GRead × Int) :=
  loopD (fun (x : List GRead × Int × Int) =>
    bif (decide (x.2.1 < (x.1.length : Int))) then
      (idx x.1 x.2.1).bind fun _ =>
      (x.1[x.2.1.toNat]?).bind fun e1 =>
      (some (x.1.set x.2.1.toNat (GRead.mk x.2.2 e1.n e1.time e1.text (reVal e1.result)))).bind fun z2 =>
      (idx z2 x.2.1).bind fun _ =>
      (z2[x.2.1.toNat]?).bind fun e3 =>
      (some (z2.set x.2.1.toNat (GRead.mk e3.kind (w64 (x.2.2 + 1)) e3.time e3.text (reVal e3.result)))).bind fun z4 =>
      (idx z4 x.2.1).bind fun _ =>
      (z4[x.2.1.toNat]?).bind fun e5 =>
      (some (z4.set x.2.1.toNat (GRead.mk e5.kind e5.n (w64 ((w64 (x.2.2 + 1)) + 1)) e5.text (reVal e5.result)))).bind fun z6 =>
      (markText (w64 ((w64 ((w64 (x.2.2 + 1)) + 1)) + 1))).bind fun t7 =>
      (idx z6 x.2.1).bind fun _ =>
      (z6[x.2.1.toNat]?).bind fun e8 =>
      (some (z6.set x.2.1.toNat (GRead.mk e8.kind e8.n e8.time t7 (reVal e8.result)))).bind fun z9 =>
      (idx z9 x.2.1).bind fun _ =>
      (z9[x.2.1.toNat]?).bind fun e10 =>
      (some (z9.set x.2.1.toNat (GRead.mk e10.kind e10.n e10.time e10.text (GVal.mk (w64 ((w64 ((w64 ((w64 (x.2.2 + 1)) + 1)) + 1)) + 1)) e10.result.n e10.result.step e10.result.text e10.result.list e10.result.columns e10.result.rows)))).bind fun z11 =>
      (idx z11 x.2.1).bind fun _ =>
      (z11[x.2.1.toNat]?).bind fun e12 =>
      (some (z11.set x.2.1.toNat (GRead.mk e12.kind e12.n e12.time e12.text (GVal.mk e12.result.kind (w64 ((w64 ((w64 ((w64 ((w64 (x.2.2 + 1)) + 1)) + 1)) + 1)) + 1)) e12.result.step e12.result.text e12.result.list e12.result.columns e12.result.rows)))).bind fun z13 =>
      (idx z13 x.2.1).bind fun _ =>
      (z13[x.2.1.toNat]?).bind fun e14 =>
      (some (z13.set x.2.1.toNat (GRead.mk e14.kind e14.n e14.time e14.text (GVal.mk e14.result.kind e14.result.n (w64 ((w64 ((w64 ((w64 ((w64 ((w64 (x.2.2 + 1)) + 1)) + 1)) + 1)) + 1)) + 1)) e14.result.text e14.result.list e14.result.columns e14.result.rows)))).bind fun z15 =>
      (markText (w64 ((w64 ((w64 ((w64 ((w64 ((w64 ((w64 (x.2.2 + 1)) + 1)) + 1)) + 1)) + 1)) + 1)) + 1))).bind fun t16 =>
      (idx z15 x.2.1).bind fun _ =>
      (z15[x.2.1.toNat]?).bind fun e17 =>
      (some (z15.set x.2.1.toNat (GRead.mk e17.kind e17.n e17.time e17.text (GVal.mk e17.result.kind e17.result.n e17.result.step t16 e17.result.list e17.result.columns e17.result.rows)))).bind fun z18 =>
      (idx z18 x.2.1).bind fun _ =>
      (z18[x.2.1.toNat]?).bind fun e19 =>
      (z18[x.2.1.toNat]?).bind fun e20 =>
      (markValueS e20.result.list (w64 ((w64 ((w64 ((w64 ((w64 ((w64 ((w64 ((w64 (x.2.2 + 1)) + 1)) + 1)) + 1)) + 1)) + 1)) + 1)) + 1))).bind fun r21 =>
      (some (z18.set x.2.1.toNat (GRead.mk e20.kind e20.n e20.time e20.text (GVal.mk e20.result.kind e20.result.n e20.result.step e20.result.text r21.1 e20.result.columns e20.result.rows)))).bind fun z22 =>
      (idx z22 x.2.1).bind fun _ =>
      (z22[x.2.1.toNat]?).bind fun e23 =>
      (z22[x.2.1.toNat]?).bind fun e24 =>
      (markStringS e24.result.columns r21.2).bind fun r25 =>
      (some (z22.set x.2.1.toNat (GRead.mk e24.kind e24.n e24.time e24.text (GVal.mk e24.result.kind e24.result.n e24.result.step e24.result.text e24.result.list r25.1 e24.result.rows)))).bind fun z26 =>
      (idx z26 x.2.1).bind fun _ =>
      (z26[x.2.1.toNat]?).bind fun e27 =>
      (z26[x.2.1.toNat]?).bind fun e28 =>
      (markRowS e28.result.rows r25.2).bind fun r29 =>
      (some (z26.set x.2.1.toNat (GRead.mk e28.kind e28.n e28.time e28.text (GVal.mk e28.result.kind e28.result.n e28.result.step e28.result.text e28.result.list e28.result.columns r29.1)))).bind fun z30 =>
      some (.inl (z30, w64 (x.2.1 + 1), r29.2))
    else
      some (.inr (x.1, x.2.2))
  ) (a, 0, b)
noncomputable def markReadSMS : Msp := { fid := 23, sh := ⟨false, .list (.base .read)⟩, fn := fun x n => markReadS x n }
noncomputable def markOpS (a : List GOp) (b : Int) : Option (List GOp × Int) :=
  loopD (fun (x : List GOp × Int × Int) =>
    bif (decide (x.2.1 < (x.1.length : Int))) then
      (idx x.1 x.2.1).bind fun _ =>
      (x.1[x.2.1.toNat]?).bind fun e1 =>
      (some (x.1.set x.2.1.toNat (GOp.mk x.2.2 e1.by_ e1.kind e1.seen e1.edit e1.src e1.dst e1.cell e1.version e1.reads))).bind fun z2 =>
      (idx z2 x.2.1).bind fun _ =>
      (z2[x.2.1.toNat]?).bind fun e3 =>
      (some (z2.set x.2.1.toNat (GOp.mk e3.time (w64 (x.2.2 + 1)) e3.kind e3.seen e3.edit e3.src e3.dst e3.cell e3.version e3.reads))).bind fun z4 =>
      (idx z4 x.2.1).bind fun _ =>
      (z4[x.2.1.toNat]?).bind fun e5 =>
      (some (z4.set x.2.1.toNat (GOp.mk e5.time e5.by_ (w64 ((w64 (x.2.2 + 1)) + 1)) e5.seen e5.edit e5.src e5.dst e5.cell e5.version e5.reads))).bind fun z6 =>
      (idx z6 x.2.1).bind fun _ =>
      (z6[x.2.1.toNat]?).bind fun e7 =>
      (z6[x.2.1.toNat]?).bind fun e8 =>
      (markIntS e8.seen (w64 ((w64 ((w64 (x.2.2 + 1)) + 1)) + 1))).bind fun r9 =>
      (some (z6.set x.2.1.toNat (GOp.mk e8.time e8.by_ e8.kind r9.1 e8.edit e8.src e8.dst e8.cell e8.version e8.reads))).bind fun z10 =>
      (idx z10 x.2.1).bind fun _ =>
      (z10[x.2.1.toNat]?).bind fun e11 =>
      (some (z10.set x.2.1.toNat (GOp.mk e11.time e11.by_ e11.kind e11.seen (GEdit.mk r9.2 e11.edit.pos e11.edit.cell) e11.src e11.dst e11.cell e11.version e11.reads))).bind fun z12 =>
      (idx z12 x.2.1).bind fun _ =>
      (z12[x.2.1.toNat]?).bind fun e13 =>
      (some (z12.set x.2.1.toNat (GOp.mk e13.time e13.by_ e13.kind e13.seen (GEdit.mk e13.edit.kind (w64 (r9.2 + 1)) e13.edit.cell) e13.src e13.dst e13.cell e13.version e13.reads))).bind fun z14 =>
      (idx z14 x.2.1).bind fun _ =>
      (z14[x.2.1.toNat]?).bind fun e15 =>
      (some (z14.set x.2.1.toNat (GOp.mk e15.time e15.by_ e15.kind e15.seen (GEdit.mk e15.edit.kind e15.edit.pos (GCell.mk (w64 ((w64 (r9.2 + 1)) + 1)) e15.edit.cell.version e15.edit.cell.kind e15.edit.cell.name e15.edit.cell.code e15.edit.cell.n)) e15.src e15.dst e15.cell e15.version e15.reads))).bind fun z16 =>
      (idx z16 x.2.1).bind fun _ =>
      (z16[x.2.1.toNat]?).bind fun e17 =>
      (some (z16.set x.2.1.toNat (GOp.mk e17.time e17.by_ e17.kind e17.seen (GEdit.mk e17.edit.kind e17.edit.pos (GCell.mk e17.edit.cell.id (w64 ((w64 ((w64 (r9.2 + 1)) + 1)) + 1)) e17.edit.cell.kind e17.edit.cell.name e17.edit.cell.code e17.edit.cell.n)) e17.src e17.dst e17.cell e17.version e17.reads))).bind fun z18 =>
      (idx z18 x.2.1).bind fun _ =>
      (z18[x.2.1.toNat]?).bind fun e19 =>
      (some (z18.set x.2.1.toNat (GOp.mk e19.time e19.by_ e19.kind e19.seen (GEdit.mk e19.edit.kind e19.edit.pos (GCell.mk e19.edit.cell.id e19.edit.cell.version (w64 ((w64 ((w64 ((w64 (r9.2 + 1)) + 1)) + 1)) + 1)) e19.edit.cell.name e19.edit.cell.code e19.edit.cell.n)) e19.src e19.dst e19.cell e19.version e19.reads))).bind fun z20 =>
      (markText (w64 ((w64 ((w64 ((w64 ((w64 (r9.2 + 1)) + 1)) + 1)) + 1)) + 1))).bind fun t21 =>
      (idx z20 x.2.1).bind fun _ =>
      (z20[x.2.1.toNat]?).bind fun e22 =>
      (some (z20.set x.2.1.toNat (GOp.mk e22.time e22.by_ e22.kind e22.seen (GEdit.mk e22.edit.kind e22.edit.pos (GCell.mk e22.edit.cell.id e22.edit.cell.version e22.edit.cell.kind t21 e22.edit.cell.code e22.edit.cell.n)) e22.src e22.dst e22.cell e22.version e22.reads))).bind fun z23 =>
      (markText (w64 ((w64 ((w64 ((w64 ((w64 ((w64 (r9.2 + 1)) + 1)) + 1)) + 1)) + 1)) + 1))).bind fun t24 =>
      (idx z23 x.2.1).bind fun _ =>
      (z23[x.2.1.toNat]?).bind fun e25 =>
      (some (z23.set x.2.1.toNat (GOp.mk e25.time e25.by_ e25.kind e25.seen (GEdit.mk e25.edit.kind e25.edit.pos (GCell.mk e25.edit.cell.id e25.edit.cell.version e25.edit.cell.kind e25.edit.cell.name t24 e25.edit.cell.n)) e25.src e25.dst e25.cell e25.version e25.reads))).bind fun z26 =>
      (idx z26 x.2.1).bind fun _ =>
      (z26[x.2.1.toNat]?).bind fun e27 =>
      (some (z26.set x.2.1.toNat (GOp.mk e27.time e27.by_ e27.kind e27.seen (GEdit.mk e27.edit.kind e27.edit.pos (GCell.mk e27.edit.cell.id e27.edit.cell.version e27.edit.cell.kind e27.edit.cell.name e27.edit.cell.code (w64 ((w64 ((w64 ((w64 ((w64 ((w64 ((w64 (r9.2 + 1)) + 1)) + 1)) + 1)) + 1)) + 1)) + 1)))) e27.src e27.dst e27.cell e27.version e27.reads))).bind fun z28 =>
      (markText (w64 ((w64 ((w64 ((w64 ((w64 ((w64 ((w64 ((w64 (r9.2 + 1)) + 1)) + 1)) + 1)) + 1)) + 1)) + 1)) + 1))).bind fun t29 =>
      (idx z28 x.2.1).bind fun _ =>
      (z28[x.2.1.toNat]?).bind fun e30 =>
      (some (z28.set x.2.1.toNat (GOp.mk e30.time e30.by_ e30.kind e30.seen e30.edit t29 e30.dst e30.cell e30.version e30.reads))).bind fun z31 =>
      (markText (w64 ((w64 ((w64 ((w64 ((w64 ((w64 ((w64 ((w64 ((w64 (r9.2 + 1)) + 1)) + 1)) + 1)) + 1)) + 1)) + 1)) + 1)) + 1))).bind fun t32 =>
      (idx z31 x.2.1).bind fun _ =>
      (z31[x.2.1.toNat]?).bind fun e33 =>
      (some (z31.set x.2.1.toNat (GOp.mk e33.time e33.by_ e33.kind e33.seen e33.edit e33.src t32 e33.cell e33.version e33.reads))).bind fun z34 =>
      (idx z34 x.2.1).bind fun _ =>
      (z34[x.2.1.toNat]?).bind fun e35 =>
      (some (z34.set x.2.1.toNat (GOp.mk e35.time e35.by_ e35.kind e35.seen e35.edit e35.src e35.dst (w64 ((w64 ((w64 ((w64 ((w64 ((w64 ((w64 ((w64 ((w64 ((w64 (r9.2 + 1)) + 1)) + 1)) + 1)) + 1)) + 1)) + 1)) + 1)) + 1)) + 1)) e35.version e35.reads))).bind fun z36 =>
      (idx z36 x.2.1).bind fun _ =>
      (z36[x.2.1.toNat]?).bind fun e37 =>
      (some (z36.set x.2.1.toNat (GOp.mk e37.time e37.by_ e37.kind e37.seen e37.edit e37.src e37.dst e37.cell (w64 ((w64 ((w64 ((w64 ((w64 ((w64 ((w64 ((w64 ((w64 ((w64 ((w64 (r9.2 + 1)) + 1)) + 1)) + 1)) + 1)) + 1)) + 1)) + 1)) + 1)) + 1)) + 1)) e37.reads))).bind fun z38 =>
      (idx z38 x.2.1).bind fun _ =>
      (z38[x.2.1.toNat]?).bind fun e39 =>
      (z38[x.2.1.toNat]?).bind fun e40 =>
      (markReadS e40.reads (w64 ((w64 ((w64 ((w64 ((w64 ((w64 ((w64 ((w64 ((w64 ((w64 ((w64 ((w64 (r9.2 + 1)) + 1)) + 1)) + 1)) + 1)) + 1)) + 1)) + 1)) + 1)) + 1)) + 1)) + 1))).bind fun r41 =>
      (some (z38.set x.2.1.toNat (GOp.mk e40.time e40.by_ e40.kind e40.seen e40.edit e40.src e40.dst e40.cell e40.version r41.1))).bind fun z42 =>
      some (.inl (z42, w64 (x.2.1 + 1), r41.2))
    else
      some (.inr (x.1, x.2.2))
  ) (a, 0, b)
noncomputable def markOpSMS : Msp := { fid := 9, sh := ⟨false, .list (.base .op)⟩, fn := fun x n => markOpS x n }
noncomputable def heldIntS (a : List Int) (b : Int) : Option (Int) :=
  loopD (fun (x1 : (List Int) × Int × Int) =>
    bif (decide (x1.2.2 < (x1.1.length : Int))) then
      (idx x1.1 x1.2.2).bind fun e2 =>
      bif (e2 != x1.2.1) then
        some (.inr ((-1)))
      else
        some (.inl (x1.1, w64 (x1.2.1 + 1), w64 (x1.2.2 + 1)))
    else
      some (.inr (x1.2.1))
  ) (a, b, 0)
noncomputable def heldIntSFS : Fsp := { fid := 24, ps := [⟨false, .list (.base .int)⟩, ⟨false, .base .int⟩], rs := [⟨false, .base .int⟩], ex := true, fn := fun x => heldIntS x.1 x.2 }
noncomputable def heldStringS (a : List Str) (b : Int) : Option (Int) :=
  loopD (fun (x1 : (List Str) × Int × Int) =>
    bif (decide (x1.2.2 < (x1.1.length : Int))) then
      (idx x1.1 x1.2.2).bind fun e2 =>
      (markText x1.2.1).bind fun r3 =>
      bif (!(e2 == r3)) then
        some (.inr ((-1)))
      else
        some (.inl (x1.1, w64 (x1.2.1 + 1), w64 (x1.2.2 + 1)))
    else
      some (.inr (x1.2.1))
  ) (a, b, 0)
noncomputable def heldStringSFS : Fsp := { fid := 45, ps := [⟨false, .list (.base .str)⟩, ⟨false, .base .int⟩], rs := [⟨false, .base .int⟩], ex := true, fn := fun x => heldStringS x.1 x.2 }
noncomputable def heldOriginS (a : List GOrigin) (b : Int) : Option (Int) :=
  loopD (fun (x1 : (List GOrigin) × Int × Int) =>
    bif (decide (x1.2.2 < (x1.1.length : Int))) then
      (idx x1.1 x1.2.2).bind fun e2 =>
      bif (e2.cell != x1.2.1) then
        some (.inr ((-1)))
      else
        (idx x1.1 x1.2.2).bind fun e3 =>
        bif (e3.row != (w64 (x1.2.1 + 1))) then
          some (.inr ((-1)))
        else
          some (.inl (x1.1, w64 ((w64 (x1.2.1 + 1)) + 1), w64 (x1.2.2 + 1)))
    else
      some (.inr (x1.2.1))
  ) (a, b, 0)
noncomputable def heldOriginSFS : Fsp := { fid := 67, ps := [⟨false, .list (.base .origin)⟩, ⟨false, .base .int⟩], rs := [⟨false, .base .int⟩], ex := true, fn := fun x => heldOriginS x.1 x.2 }
noncomputable def heldRowS (a : List GRow) (b : Int) : Option (Int) :=
  loopD (fun (x1 : (List GRow) × Int × Int) =>
    bif (decide (x1.2.2 < (x1.1.length : Int))) then
      (idx x1.1 x1.2.2).bind fun e2 =>
      (heldIntS e2.cells x1.2.1).bind fun r3 =>
      bif (decide (r3 < 0)) then
        some (.inr ((-1)))
      else
        (idx x1.1 x1.2.2).bind fun e4 =>
        (heldOriginS e4.orig r3).bind fun r5 =>
        bif (decide (r5 < 0)) then
          some (.inr ((-1)))
        else
          some (.inl (x1.1, r5, w64 (x1.2.2 + 1)))
    else
      some (.inr (x1.2.1))
  ) (a, b, 0)
noncomputable def heldRowSFS : Fsp := { fid := 46, ps := [⟨false, .list (.base .row)⟩, ⟨false, .base .int⟩], rs := [⟨false, .base .int⟩], ex := true, fn := fun x => heldRowS x.1 x.2 }
noncomputable def heldValueSB (rheldValueS : (List GVal) → Int → Option (Int)) (a : List GVal) (b : Int) : Option (Int) :=
  loopD (fun (x1 : (List GVal) × Int × Int) =>
    bif (decide (x1.2.2 < (x1.1.length : Int))) then
      (idx x1.1 x1.2.2).bind fun e2 =>
      bif (e2.kind != x1.2.1) then
        some (.inr ((-1)))
      else
      (idx x1.1 x1.2.2).bind fun e3 =>
      bif (e3.n != (w64 (x1.2.1 + 1))) then
        some (.inr ((-1)))
      else
      (idx x1.1 x1.2.2).bind fun e4 =>
      bif (e4.step != (w64 ((w64 (x1.2.1 + 1)) + 1))) then
        some (.inr ((-1)))
      else
      (idx x1.1 x1.2.2).bind fun e5 =>
      (markText (w64 ((w64 ((w64 (x1.2.1 + 1)) + 1)) + 1))).bind fun r6 =>
      bif (!(e5.text == r6)) then
        some (.inr ((-1)))
      else
      (idx x1.1 x1.2.2).bind fun e7 =>
      (rheldValueS e7.list (w64 ((w64 ((w64 ((w64 (x1.2.1 + 1)) + 1)) + 1)) + 1))).bind fun r8 =>
      bif (decide (r8 < 0)) then
        some (.inr ((-1)))
      else
      (idx x1.1 x1.2.2).bind fun e9 =>
      (heldStringS e9.columns r8).bind fun r10 =>
      bif (decide (r10 < 0)) then
        some (.inr ((-1)))
      else
        (idx x1.1 x1.2.2).bind fun e11 =>
        (heldRowS e11.rows r10).bind fun r12 =>
        bif (decide (r12 < 0)) then
          some (.inr ((-1)))
        else
          some (.inl (x1.1, r12, w64 (x1.2.2 + 1)))
    else
      some (.inr (x1.2.1))
  ) (a, b, 0)
noncomputable def heldValueSG : Nat → ((List GVal) → Int → Option (Int))
  | 0 => fun _ _ => none
  | n + 1 => heldValueSB (heldValueSG n)
noncomputable def heldValueS (a : List GVal) (b : Int) : Option (Int) := (heldValueSG (siz a + 1)) a b
noncomputable def heldValueSFS : Fsp := { fid := 44, ps := [⟨false, .list (.base .val)⟩, ⟨false, .base .int⟩], rs := [⟨false, .base .int⟩], ex := true, fn := fun x => heldValueS x.1 x.2 }
noncomputable def heldValueSFSN (n : Nat) : Fsp := { fid := 44, ps := [⟨false, .list (.base .val)⟩, ⟨false, .base .int⟩], rs := [⟨false, .base .int⟩], ex := true, fn := fun x => (heldValueSG n) x.1 x.2 }
noncomputable def heldReadS (a : List GRead) (b : Int) : Option (Int) :=
  loopD (fun (x1 : (List GRead) × Int × Int) =>
    bif (decide (x1.2.2 < (x1.1.length : Int))) then
      (idx x1.1 x1.2.2).bind fun e2 =>
      bif (e2.kind != x1.2.1) then
        some (.inr ((-1)))
      else
      (idx x1.1 x1.2.2).bind fun e3 =>
      bif (e3.n != (w64 (x1.2.1 + 1))) then
        some (.inr ((-1)))
      else
      (idx x1.1 x1.2.2).bind fun e4 =>
      bif (e4.time != (w64 ((w64 (x1.2.1 + 1)) + 1))) then
        some (.inr ((-1)))
      else
      (idx x1.1 x1.2.2).bind fun e5 =>
      (markText (w64 ((w64 ((w64 (x1.2.1 + 1)) + 1)) + 1))).bind fun r6 =>
      bif (!(e5.text == r6)) then
        some (.inr ((-1)))
      else
      (idx x1.1 x1.2.2).bind fun e7 =>
      bif (e7.result.kind != (w64 ((w64 ((w64 ((w64 (x1.2.1 + 1)) + 1)) + 1)) + 1))) then
        some (.inr ((-1)))
      else
      (idx x1.1 x1.2.2).bind fun e8 =>
      bif (e8.result.n != (w64 ((w64 ((w64 ((w64 ((w64 (x1.2.1 + 1)) + 1)) + 1)) + 1)) + 1))) then
        some (.inr ((-1)))
      else
      (idx x1.1 x1.2.2).bind fun e9 =>
      bif (e9.result.step != (w64 ((w64 ((w64 ((w64 ((w64 ((w64 (x1.2.1 + 1)) + 1)) + 1)) + 1)) + 1)) + 1))) then
        some (.inr ((-1)))
      else
      (idx x1.1 x1.2.2).bind fun e10 =>
      (markText (w64 ((w64 ((w64 ((w64 ((w64 ((w64 ((w64 (x1.2.1 + 1)) + 1)) + 1)) + 1)) + 1)) + 1)) + 1))).bind fun r11 =>
      bif (!(e10.result.text == r11)) then
        some (.inr ((-1)))
      else
      (idx x1.1 x1.2.2).bind fun e12 =>
      (heldValueS e12.result.list (w64 ((w64 ((w64 ((w64 ((w64 ((w64 ((w64 ((w64 (x1.2.1 + 1)) + 1)) + 1)) + 1)) + 1)) + 1)) + 1)) + 1))).bind fun r13 =>
      bif (decide (r13 < 0)) then
        some (.inr ((-1)))
      else
      (idx x1.1 x1.2.2).bind fun e14 =>
      (heldStringS e14.result.columns r13).bind fun r15 =>
      bif (decide (r15 < 0)) then
        some (.inr ((-1)))
      else
        (idx x1.1 x1.2.2).bind fun e16 =>
        (heldRowS e16.result.rows r15).bind fun r17 =>
        bif (decide (r17 < 0)) then
          some (.inr ((-1)))
        else
          some (.inl (x1.1, r17, w64 (x1.2.2 + 1)))
    else
      some (.inr (x1.2.1))
  ) (a, b, 0)
noncomputable def heldReadSFS : Fsp := { fid := 25, ps := [⟨false, .list (.base .read)⟩, ⟨false, .base .int⟩], rs := [⟨false, .base .int⟩], ex := true, fn := fun x => heldReadS x.1 x.2 }
noncomputable def heldOpS (a : List GOp) (b : Int) : Option (Int) :=
  loopD (fun (x1 : (List GOp) × Int × Int) =>
    bif (decide (x1.2.2 < (x1.1.length : Int))) then
      (idx x1.1 x1.2.2).bind fun e2 =>
      bif (e2.time != x1.2.1) then
        some (.inr ((-1)))
      else
      (idx x1.1 x1.2.2).bind fun e3 =>
      bif (e3.by_ != (w64 (x1.2.1 + 1))) then
        some (.inr ((-1)))
      else
      (idx x1.1 x1.2.2).bind fun e4 =>
      bif (e4.kind != (w64 ((w64 (x1.2.1 + 1)) + 1))) then
        some (.inr ((-1)))
      else
      (idx x1.1 x1.2.2).bind fun e5 =>
      (heldIntS e5.seen (w64 ((w64 ((w64 (x1.2.1 + 1)) + 1)) + 1))).bind fun r6 =>
      bif (decide (r6 < 0)) then
        some (.inr ((-1)))
      else
      (idx x1.1 x1.2.2).bind fun e7 =>
      bif (e7.edit.kind != r6) then
        some (.inr ((-1)))
      else
      (idx x1.1 x1.2.2).bind fun e8 =>
      bif (e8.edit.pos != (w64 (r6 + 1))) then
        some (.inr ((-1)))
      else
      (idx x1.1 x1.2.2).bind fun e9 =>
      bif (e9.edit.cell.id != (w64 ((w64 (r6 + 1)) + 1))) then
        some (.inr ((-1)))
      else
      (idx x1.1 x1.2.2).bind fun e10 =>
      bif (e10.edit.cell.version != (w64 ((w64 ((w64 (r6 + 1)) + 1)) + 1))) then
        some (.inr ((-1)))
      else
      (idx x1.1 x1.2.2).bind fun e11 =>
      bif (e11.edit.cell.kind != (w64 ((w64 ((w64 ((w64 (r6 + 1)) + 1)) + 1)) + 1))) then
        some (.inr ((-1)))
      else
      (idx x1.1 x1.2.2).bind fun e12 =>
      (markText (w64 ((w64 ((w64 ((w64 ((w64 (r6 + 1)) + 1)) + 1)) + 1)) + 1))).bind fun r13 =>
      bif (!(e12.edit.cell.name == r13)) then
        some (.inr ((-1)))
      else
      (idx x1.1 x1.2.2).bind fun e14 =>
      (markText (w64 ((w64 ((w64 ((w64 ((w64 ((w64 (r6 + 1)) + 1)) + 1)) + 1)) + 1)) + 1))).bind fun r15 =>
      bif (!(e14.edit.cell.code == r15)) then
        some (.inr ((-1)))
      else
      (idx x1.1 x1.2.2).bind fun e16 =>
      bif (e16.edit.cell.n != (w64 ((w64 ((w64 ((w64 ((w64 ((w64 ((w64 (r6 + 1)) + 1)) + 1)) + 1)) + 1)) + 1)) + 1))) then
        some (.inr ((-1)))
      else
      (idx x1.1 x1.2.2).bind fun e17 =>
      (markText (w64 ((w64 ((w64 ((w64 ((w64 ((w64 ((w64 ((w64 (r6 + 1)) + 1)) + 1)) + 1)) + 1)) + 1)) + 1)) + 1))).bind fun r18 =>
      bif (!(e17.src == r18)) then
        some (.inr ((-1)))
      else
      (idx x1.1 x1.2.2).bind fun e19 =>
      (markText (w64 ((w64 ((w64 ((w64 ((w64 ((w64 ((w64 ((w64 ((w64 (r6 + 1)) + 1)) + 1)) + 1)) + 1)) + 1)) + 1)) + 1)) + 1))).bind fun r20 =>
      bif (!(e19.dst == r20)) then
        some (.inr ((-1)))
      else
      (idx x1.1 x1.2.2).bind fun e21 =>
      bif (e21.cell != (w64 ((w64 ((w64 ((w64 ((w64 ((w64 ((w64 ((w64 ((w64 ((w64 (r6 + 1)) + 1)) + 1)) + 1)) + 1)) + 1)) + 1)) + 1)) + 1)) + 1))) then
        some (.inr ((-1)))
      else
      (idx x1.1 x1.2.2).bind fun e22 =>
      bif (e22.version != (w64 ((w64 ((w64 ((w64 ((w64 ((w64 ((w64 ((w64 ((w64 ((w64 ((w64 (r6 + 1)) + 1)) + 1)) + 1)) + 1)) + 1)) + 1)) + 1)) + 1)) + 1)) + 1))) then
        some (.inr ((-1)))
      else
        (idx x1.1 x1.2.2).bind fun e23 =>
        (heldReadS e23.reads (w64 ((w64 ((w64 ((w64 ((w64 ((w64 ((w64 ((w64 ((w64 ((w64 ((w64 ((w64 (r6 + 1)) + 1)) + 1)) + 1)) + 1)) + 1)) + 1)) + 1)) + 1)) + 1)) + 1)) + 1))).bind fun r24 =>
        bif (decide (r24 < 0)) then
          some (.inr ((-1)))
        else
          some (.inl (x1.1, r24, w64 (x1.2.2 + 1)))
    else
      some (.inr (x1.2.1))
  ) (a, b, 0)
noncomputable def heldOpSFS : Fsp := { fid := 10, ps := [⟨false, .list (.base .op)⟩, ⟨false, .base .int⟩], rs := [⟨false, .base .int⟩], ex := true, fn := fun x => heldOpS x.1 x.2 }
noncomputable def FnExactMergeOps (a : List GOp) (b : List GOp) : Option (Bool) :=
  (szOpS a 1048576).bind fun r1 =>
  bif (decide (r1 < 0)) then
    some (true)
  else
  (szOpS b r1).bind fun r2 =>
  bif (decide (r2 < 0)) then
    some (true)
  else
  (toOpS a).bind fun r3 =>
  (toOpS b).bind fun r4 =>
  (sMergeOps r3 r4).bind fun r5 =>
  (toOpS a).bind fun r6 =>
  (toOpS b).bind fun r7 =>
  (iMergeOps r6 r7).bind fun r8 =>
  (eqOpS r8 r5).bind fun r9 =>
  bif (!r9) then
    some (false)
  else
  (toOpS a).bind fun r10 =>
  (eqOpS r6 r10).bind fun r11 =>
  bif (!r11) then
    some (false)
  else
  (toOpS b).bind fun r12 =>
  (eqOpS r7 r12).bind fun r13 =>
  bif (!r13) then
    some (false)
  else
  (markOpS r6 1).bind fun r14 =>
  (markOpS r7 r14.2).bind fun r15 =>
  bif (decide (r15.2 < 0)) then
    some (false)
  else
  (eqOpS r8 r5).bind fun r16 =>
  bif (!r16) then
    some (false)
  else
  (markOpS r8 1).bind fun r17 =>
  (heldOpS r17.1 1).bind fun r18 =>
  bif (decide (r18 < 0)) then
    some (false)
  else
  bif (r18 != r17.2) then
    some (false)
  else
  (toOpS a).bind fun r19 =>
  (toOpS b).bind fun r20 =>
  (iMergeOps r19 r20).bind fun r21 =>
  (eqOpS r21 r5).bind fun r22 =>
  bif (!r22) then
    some (false)
  else
    (heldOpS r17.1 1).bind fun r23 =>
    bif (decide (r23 < 0)) then
      some (false)
    else
      bif (r23 != r17.2) then
        some (false)
      else
        some (true)
noncomputable def FnExactMergeOpsFS : Fsp := { fid := 3, ps := [⟨false, .list (.base .op)⟩, ⟨false, .list (.base .op)⟩], rs := [⟨false, .base .bool⟩], ex := true, fn := fun x => FnExactMergeOps x.1 x.2 }
end Go.Proofs.Ytijhfajcbmpndaa
