/- What the functions compute, by gen.py. -/
import Derived.Test.YtopcobafmnpmkaaTabs
import Derived.Test.YtopcobafmnpmkaaSortD
namespace Go.Proofs.Ytopcobafmnpmkaa
open Go.Abs Go.Proofs
set_option linter.unusedVariables false
abbrev siz {α : Type} [SizeOf α] (x : α) : Nat := SizeOf.sizeOf x
abbrev w64 (n : Int) : Int := IntKind.i64.wrap n
abbrev w8 (n : Int) : Int := IntKind.u8.wrap n
noncomputable def szStringS (a : List Str) (b : Int) : Option (Int) :=
  bif (decide ((w64 (b - (a.length : Int))) < 0)) then
    some ((-1))
  else
    loopD (fun (x1 : (List Str) × Int × Int) =>
      bif (decide (x1.2.2 < (x1.1.length : Int))) then
        (idx x1.1 x1.2.2).bind fun e2 =>
        bif (decide ((w64 (x1.2.1 - (e2.length : Int))) < 0)) then
          some (.inr ((-1)))
        else
          some (.inl (x1.1, w64 (x1.2.1 - (e2.length : Int)), w64 (x1.2.2 + 1)))
      else
        some (.inr (x1.2.1))
    ) (a, w64 (b - (a.length : Int)), 0)
noncomputable def szStringSFS : Fsp := { fid := 78, ps := [⟨false, .list (.base .str)⟩, ⟨false, .base .int⟩], rs := [⟨false, .base .int⟩], ex := true, fn := fun x => szStringS x.1 x.2 }
noncomputable def szIntS (a : List Int) (b : Int) : Option (Int) :=
  bif (decide ((w64 (b - (a.length : Int))) < 0)) then
    some ((-1))
  else
    some (w64 (b - (a.length : Int)))
noncomputable def szIntSFS : Fsp := { fid := 90, ps := [⟨false, .list (.base .int)⟩, ⟨false, .base .int⟩], rs := [⟨false, .base .int⟩], ex := true, fn := fun x => szIntS x.1 x.2 }
noncomputable def szOriginS (a : List GOrigin) (b : Int) : Option (Int) :=
  bif (decide ((w64 (b - (a.length : Int))) < 0)) then
    some ((-1))
  else
    some (w64 (b - (a.length : Int)))
noncomputable def szOriginSFS : Fsp := { fid := 91, ps := [⟨false, .list (.base .origin)⟩, ⟨false, .base .int⟩], rs := [⟨false, .base .int⟩], ex := true, fn := fun x => szOriginS x.1 x.2 }
noncomputable def szRow (a : GRow) (b : Int) : Option (Int) :=
  (szIntS a.cells b).bind fun r1 =>
  bif (decide (r1 < 0)) then
    some ((-1))
  else
    (szOriginS a.orig r1).bind fun r2 =>
    bif (decide (r2 < 0)) then
      some ((-1))
    else
      some (r2)
noncomputable def szRowFS : Fsp := { fid := 87, ps := [⟨true, .base .row⟩, ⟨false, .base .int⟩], rs := [⟨false, .base .int⟩], ex := true, fn := fun x => szRow x.1 x.2 }
noncomputable def szRowS (a : List GRow) (b : Int) : Option (Int) :=
  bif (decide ((w64 (b - (a.length : Int))) < 0)) then
    some ((-1))
  else
  loopD (fun (x1 : (List GRow) × Int × Int) =>
    bif (decide (x1.2.2 < (x1.1.length : Int))) then
      (idx x1.1 x1.2.2).bind fun e2 =>
      (szRow e2 x1.2.1).bind fun r3 =>
      bif (decide (r3 < 0)) then
        some (.inr ((-1)))
      else
        some (.inl (x1.1, r3, w64 (x1.2.2 + 1)))
    else
      some (.inr (x1.2.1))
  ) (a, w64 (b - (a.length : Int)), 0)
noncomputable def szRowSFS : Fsp := { fid := 79, ps := [⟨false, .list (.base .row)⟩, ⟨false, .base .int⟩], rs := [⟨false, .base .int⟩], ex := true, fn := fun x => szRowS x.1 x.2 }
noncomputable def szValueB (rszValue : GVal → Int → Option (Int)) (rszValueS : (List GVal) → Int → Option (Int)) (a : GVal) (b : Int) : Option (Int) :=
  bif (decide ((w64 (b - (a.text.length : Int))) < 0)) then
    some ((-1))
  else
  (rszValueS a.list (w64 (b - (a.text.length : Int)))).bind fun r1 =>
  bif (decide (r1 < 0)) then
    some ((-1))
  else
    (szStringS a.columns r1).bind fun r2 =>
    bif (decide (r2 < 0)) then
      some ((-1))
    else
      (szRowS a.rows r2).bind fun r3 =>
      bif (decide (r3 < 0)) then
        some ((-1))
      else
        some (r3)
noncomputable def szValueSB (rszValue : GVal → Int → Option (Int)) (rszValueS : (List GVal) → Int → Option (Int)) (a : List GVal) (b : Int) : Option (Int) :=
  bif (decide ((w64 (b - (a.length : Int))) < 0)) then
    some ((-1))
  else
  loopD (fun (x1 : (List GVal) × Int × Int) =>
    bif (decide (x1.2.2 < (x1.1.length : Int))) then
      (idx x1.1 x1.2.2).bind fun e2 =>
      (rszValue (reVal e2) x1.2.1).bind fun r3 =>
      bif (decide (r3 < 0)) then
        some (.inr ((-1)))
      else
        some (.inl (x1.1, r3, w64 (x1.2.2 + 1)))
    else
      some (.inr (x1.2.1))
  ) (a, w64 (b - (a.length : Int)), 0)
noncomputable def szValueG : Nat → (GVal → Int → Option (Int)) × ((List GVal) → Int → Option (Int))
  | 0 => (fun _ _ => none, fun _ _ => none)
  | n + 1 => (szValueB (szValueG n).1 (szValueG n).2, szValueSB (szValueG n).1 (szValueG n).2)
noncomputable def szValue (a : GVal) (b : Int) : Option (Int) := (szValueG (siz a + 1)).1 a b
noncomputable def szValueFS : Fsp := { fid := 69, ps := [⟨true, .base .val⟩, ⟨false, .base .int⟩], rs := [⟨false, .base .int⟩], ex := true, fn := fun x => szValue x.1 x.2 }
noncomputable def szValueFSN (n : Nat) : Fsp := { fid := 69, ps := [⟨true, .base .val⟩, ⟨false, .base .int⟩], rs := [⟨false, .base .int⟩], ex := true, fn := fun x => (szValueG n).1 x.1 x.2 }
noncomputable def szValueS (a : List GVal) (b : Int) : Option (Int) := (szValueG (siz a + 1)).2 a b
noncomputable def szValueSFS : Fsp := { fid := 77, ps := [⟨false, .list (.base .val)⟩, ⟨false, .base .int⟩], rs := [⟨false, .base .int⟩], ex := true, fn := fun x => szValueS x.1 x.2 }
noncomputable def szValueSFSN (n : Nat) : Fsp := { fid := 77, ps := [⟨false, .list (.base .val)⟩, ⟨false, .base .int⟩], rs := [⟨false, .base .int⟩], ex := true, fn := fun x => (szValueG n).2 x.1 x.2 }
noncomputable def szRead (a : GRead) (b : Int) : Option (Int) :=
  bif (decide ((w64 (b - (a.text.length : Int))) < 0)) then
    some ((-1))
  else
    (szValue (reVal a.result) (w64 (b - (a.text.length : Int)))).bind fun r1 =>
    bif (decide (r1 < 0)) then
      some ((-1))
    else
      some (r1)
noncomputable def szReadFS : Fsp := { fid := 58, ps := [⟨true, .base .read⟩, ⟨false, .base .int⟩], rs := [⟨false, .base .int⟩], ex := true, fn := fun x => szRead x.1 x.2 }
noncomputable def szReadS (a : List GRead) (b : Int) : Option (Int) :=
  bif (decide ((w64 (b - (a.length : Int))) < 0)) then
    some ((-1))
  else
  loopD (fun (x1 : (List GRead) × Int × Int) =>
    bif (decide (x1.2.2 < (x1.1.length : Int))) then
      (idx x1.1 x1.2.2).bind fun e2 =>
      (szRead (reRead e2) x1.2.1).bind fun r3 =>
      bif (decide (r3 < 0)) then
        some (.inr ((-1)))
      else
        some (.inl (x1.1, r3, w64 (x1.2.2 + 1)))
    else
      some (.inr (x1.2.1))
  ) (a, w64 (b - (a.length : Int)), 0)
noncomputable def szReadSFS : Fsp := { fid := 35, ps := [⟨false, .list (.base .read)⟩, ⟨false, .base .int⟩], rs := [⟨false, .base .int⟩], ex := true, fn := fun x => szReadS x.1 x.2 }
noncomputable def szTape (a : GTape) (b : Int) : Option (Int) :=
  (szReadS a.reads b).bind fun r1 =>
  bif (decide (r1 < 0)) then
    some ((-1))
  else
    some (r1)
noncomputable def szTapeFS : Fsp := { fid := 15, ps := [⟨true, .base .tape⟩, ⟨false, .base .int⟩], rs := [⟨false, .base .int⟩], ex := true, fn := fun x => szTape x.1 x.2 }
noncomputable def szTapeS (a : List GTape) (b : Int) : Option (Int) :=
  bif (decide ((w64 (b - (a.length : Int))) < 0)) then
    some ((-1))
  else
  loopD (fun (x1 : (List GTape) × Int × Int) =>
    bif (decide (x1.2.2 < (x1.1.length : Int))) then
      (idx x1.1 x1.2.2).bind fun e2 =>
      (szTape e2 x1.2.1).bind fun r3 =>
      bif (decide (r3 < 0)) then
        some (.inr ((-1)))
      else
        some (.inl (x1.1, r3, w64 (x1.2.2 + 1)))
    else
      some (.inr (x1.2.1))
  ) (a, w64 (b - (a.length : Int)), 0)
noncomputable def szTapeSFS : Fsp := { fid := 4, ps := [⟨false, .list (.base .tape)⟩, ⟨false, .base .int⟩], rs := [⟨false, .base .int⟩], ex := true, fn := fun x => szTapeS x.1 x.2 }
noncomputable def szCell (a : GCell) (b : Int) : Option (Int) :=
  bif (decide ((w64 (b - (a.name.length : Int))) < 0)) then
    some ((-1))
  else
    bif (decide ((w64 ((w64 (b - (a.name.length : Int))) - (a.code.length : Int))) < 0)) then
      some ((-1))
    else
      some (w64 ((w64 (b - (a.name.length : Int))) - (a.code.length : Int)))
noncomputable def szCellFS : Fsp := { fid := 36, ps := [⟨true, .base .cell⟩, ⟨false, .base .int⟩], rs := [⟨false, .base .int⟩], ex := true, fn := fun x => szCell x.1 x.2 }
noncomputable def szCellS (a : List GCell) (b : Int) : Option (Int) :=
  bif (decide ((w64 (b - (a.length : Int))) < 0)) then
    some ((-1))
  else
  loopD (fun (x1 : (List GCell) × Int × Int) =>
    bif (decide (x1.2.2 < (x1.1.length : Int))) then
      (idx x1.1 x1.2.2).bind fun e2 =>
      (szCell e2 x1.2.1).bind fun r3 =>
      bif (decide (r3 < 0)) then
        some (.inr ((-1)))
      else
        some (.inl (x1.1, r3, w64 (x1.2.2 + 1)))
    else
      some (.inr (x1.2.1))
  ) (a, w64 (b - (a.length : Int)), 0)
noncomputable def szCellSFS : Fsp := { fid := 16, ps := [⟨false, .list (.base .cell)⟩, ⟨false, .base .int⟩], rs := [⟨false, .base .int⟩], ex := true, fn := fun x => szCellS x.1 x.2 }
noncomputable def szNotebook (a : GNotebook) (b : Int) : Option (Int) :=
  (szCellS a.cells b).bind fun r1 =>
  bif (decide (r1 < 0)) then
    some ((-1))
  else
    some (r1)
noncomputable def szNotebookFS : Fsp := { fid := 5, ps := [⟨true, .base .notebook⟩, ⟨false, .base .int⟩], rs := [⟨false, .base .int⟩], ex := true, fn := fun x => szNotebook x.1 x.2 }
noncomputable def sL3Row (a : GRow) : Option (GRow) :=
  (gd (0 + a.cells.length)).bind fun _ =>
  (gd (0 + a.orig.length)).bind fun _ =>
  some (GRow.mk ([] ++ a.cells) ([] ++ a.orig))
noncomputable def sL3RowFS : Fsp := { fid := 80, ps := [⟨true, .base .row⟩], rs := [⟨true, .base .row⟩], ex := true, fn := fun x => sL3Row x }
noncomputable def sL3CopyB (rsL3Copy : GVal → Option (GVal)) (a : GVal) : Option (GVal) :=
  (gd (0 + a.columns.length)).bind fun _ =>
  loopD (fun (x1 : Int × Int × Int × Str × (List GVal) × (List Str) × (List GRow) × Int × Int × Int × Str × (List GVal) × (List Str) × (List GRow) × Int × Int × Int × Str × (List GVal) × (List Str) × (List GRow) × Int) =>
    bif (decide (x1.2.2.2.2.2.2.2.2.2.2.2.2.2.2.2.2.2.2.2.2.2 < (x1.2.2.2.2.1.length : Int))) then
      (idx x1.2.2.2.2.1 x1.2.2.2.2.2.2.2.2.2.2.2.2.2.2.2.2.2.2.2.2.2).bind fun e2 =>
      (rsL3Copy (reVal e2)).bind fun r3 =>
      (gd (x1.2.2.2.2.2.2.2.2.2.2.2.2.2.2.2.2.2.2.1.length + [reVal r3].length)).bind fun _ =>
      some (.inl (x1.1, x1.2.1, x1.2.2.1, x1.2.2.2.1, x1.2.2.2.2.1, x1.2.2.2.2.2.1, x1.2.2.2.2.2.2.1, x1.2.2.2.2.2.2.2.1, x1.2.2.2.2.2.2.2.2.1, x1.2.2.2.2.2.2.2.2.2.1, x1.2.2.2.2.2.2.2.2.2.2.1, x1.2.2.2.2.2.2.2.2.2.2.2.1, x1.2.2.2.2.2.2.2.2.2.2.2.2.1, x1.2.2.2.2.2.2.2.2.2.2.2.2.2.1, x1.2.2.2.2.2.2.2.2.2.2.2.2.2.2.1, x1.2.2.2.2.2.2.2.2.2.2.2.2.2.2.2.1, x1.2.2.2.2.2.2.2.2.2.2.2.2.2.2.2.2.1, x1.2.2.2.2.2.2.2.2.2.2.2.2.2.2.2.2.2.1, x1.2.2.2.2.2.2.2.2.2.2.2.2.2.2.2.2.2.2.1 ++ [reVal r3], x1.2.2.2.2.2.2.2.2.2.2.2.2.2.2.2.2.2.2.2.1, x1.2.2.2.2.2.2.2.2.2.2.2.2.2.2.2.2.2.2.2.2.1, w64 (x1.2.2.2.2.2.2.2.2.2.2.2.2.2.2.2.2.2.2.2.2.2 + 1)))
    else
      (
        loopD (fun (x4 : Int × Int × Int × Str × (List GVal) × (List Str) × (List GRow) × Int × Int × Int × Str × (List GVal) × (List Str) × (List GRow) × Int × Int × Int × Str × (List GVal) × (List Str) × (List GRow) × Int) =>
          bif (decide (x4.2.2.2.2.2.2.2.2.2.2.2.2.2.2.2.2.2.2.2.2.2 < (x4.2.2.2.2.2.2.1.length : Int))) then
            (idx x4.2.2.2.2.2.2.1 x4.2.2.2.2.2.2.2.2.2.2.2.2.2.2.2.2.2.2.2.2.2).bind fun e5 =>
            (sL3Row e5).bind fun r6 =>
            (gd (x4.2.2.2.2.2.2.2.2.2.2.2.2.2.2.2.2.2.2.2.2.1.length + [r6].length)).bind fun _ =>
            some (.inl (x4.1, x4.2.1, x4.2.2.1, x4.2.2.2.1, x4.2.2.2.2.1, x4.2.2.2.2.2.1, x4.2.2.2.2.2.2.1, x4.2.2.2.2.2.2.2.1, x4.2.2.2.2.2.2.2.2.1, x4.2.2.2.2.2.2.2.2.2.1, x4.2.2.2.2.2.2.2.2.2.2.1, x4.2.2.2.2.2.2.2.2.2.2.2.1, x4.2.2.2.2.2.2.2.2.2.2.2.2.1, x4.2.2.2.2.2.2.2.2.2.2.2.2.2.1, x4.2.2.2.2.2.2.2.2.2.2.2.2.2.2.1, x4.2.2.2.2.2.2.2.2.2.2.2.2.2.2.2.1, x4.2.2.2.2.2.2.2.2.2.2.2.2.2.2.2.2.1, x4.2.2.2.2.2.2.2.2.2.2.2.2.2.2.2.2.2.1, x4.2.2.2.2.2.2.2.2.2.2.2.2.2.2.2.2.2.2.1, x4.2.2.2.2.2.2.2.2.2.2.2.2.2.2.2.2.2.2.2.1, x4.2.2.2.2.2.2.2.2.2.2.2.2.2.2.2.2.2.2.2.2.1 ++ [r6], w64 (x4.2.2.2.2.2.2.2.2.2.2.2.2.2.2.2.2.2.2.2.2.2 + 1)))
          else
            some (.inr (GVal.mk x4.2.2.2.2.2.2.2.2.2.2.2.2.2.2.1 x4.2.2.2.2.2.2.2.2.2.2.2.2.2.2.2.1 x4.2.2.2.2.2.2.2.2.2.2.2.2.2.2.2.2.1 x4.2.2.2.2.2.2.2.2.2.2.2.2.2.2.2.2.2.1 x4.2.2.2.2.2.2.2.2.2.2.2.2.2.2.2.2.2.2.1 x4.2.2.2.2.2.2.2.2.2.2.2.2.2.2.2.2.2.2.2.1 x4.2.2.2.2.2.2.2.2.2.2.2.2.2.2.2.2.2.2.2.2.1))
        ) (x1.1, x1.2.1, x1.2.2.1, x1.2.2.2.1, x1.2.2.2.2.1, x1.2.2.2.2.2.1, x1.2.2.2.2.2.2.1, x1.2.2.2.2.2.2.2.1, x1.2.2.2.2.2.2.2.2.1, x1.2.2.2.2.2.2.2.2.2.1, x1.2.2.2.2.2.2.2.2.2.2.1, x1.2.2.2.2.2.2.2.2.2.2.2.1, x1.2.2.2.2.2.2.2.2.2.2.2.2.1, x1.2.2.2.2.2.2.2.2.2.2.2.2.2.1, x1.2.2.2.2.2.2.2.2.2.2.2.2.2.2.1, x1.2.2.2.2.2.2.2.2.2.2.2.2.2.2.2.1, x1.2.2.2.2.2.2.2.2.2.2.2.2.2.2.2.2.1, x1.2.2.2.2.2.2.2.2.2.2.2.2.2.2.2.2.2.1, x1.2.2.2.2.2.2.2.2.2.2.2.2.2.2.2.2.2.2.1, x1.2.2.2.2.2.2.2.2.2.2.2.2.2.2.2.2.2.2.2.1, x1.2.2.2.2.2.2.2.2.2.2.2.2.2.2.2.2.2.2.2.2.1, 0)
      ).bind fun r => some (.inr r)
  ) (a.kind, a.n, a.step, a.text, a.list, a.columns, a.rows, 0, 0, 0, [], [], [], [], a.kind, a.n, a.step, a.text, [], [] ++ a.columns, [], 0)
noncomputable def sL3CopyG : Nat → (GVal → Option (GVal))
  | 0 => fun _ => none
  | n + 1 => sL3CopyB (sL3CopyG n)
noncomputable def sL3Copy (a : GVal) : Option (GVal) := (sL3CopyG (siz a + 1)) a
noncomputable def sL3CopyFS : Fsp := { fid := 70, ps := [⟨true, .base .val⟩], rs := [⟨true, .base .val⟩], ex := true, fn := fun x => sL3Copy x }
noncomputable def sL3CopyFSN (n : Nat) : Fsp := { fid := 70, ps := [⟨true, .base .val⟩], rs := [⟨true, .base .val⟩], ex := true, fn := fun x => (sL3CopyG n) x }
noncomputable def sL16Read (a : GRead) : Option (GRead) :=
  (sL3Copy (reVal a.result)).bind fun r1 =>
  some (GRead.mk a.kind a.n a.time a.text (reVal r1))
noncomputable def sL16ReadFS : Fsp := { fid := 59, ps := [⟨true, .base .read⟩], rs := [⟨true, .base .read⟩], ex := true, fn := fun x => sL16Read x }
noncomputable def sL16Reads (a : List GRead) : Option ((List GRead)) :=
  loopD (fun (x1 : (List GRead) × (List GRead) × Int) =>
    bif (decide (x1.2.2 < (x1.1.length : Int))) then
      (idx x1.1 x1.2.2).bind fun e2 =>
      (sL16Read (reRead e2)).bind fun r3 =>
      (gd (x1.2.1.length + [reRead r3].length)).bind fun _ =>
      some (.inl (x1.1, x1.2.1 ++ [reRead r3], w64 (x1.2.2 + 1)))
    else
      some (.inr (x1.2.1))
  ) (a, [], 0)
noncomputable def sL16ReadsFS : Fsp := { fid := 37, ps := [⟨false, .list (.base .read)⟩], rs := [⟨false, .list (.base .read)⟩], ex := true, fn := fun x => sL16Reads x }
noncomputable def sL26Copy (a : List GTape) : Option ((List GTape)) :=
  loopD (fun (x1 : (List GTape) × (List GTape) × Int) =>
    bif (decide (x1.2.2 < (x1.1.length : Int))) then
      (idx x1.1 x1.2.2).bind fun e2 =>
      (idx x1.1 x1.2.2).bind fun e3 =>
      (idx x1.1 x1.2.2).bind fun e4 =>
      (sL16Reads e4.reads).bind fun r5 =>
      (gd (x1.2.1.length + [GTape.mk e2.cell e3.version r5].length)).bind fun _ =>
      some (.inl (x1.1, x1.2.1 ++ [GTape.mk e2.cell e3.version r5], w64 (x1.2.2 + 1)))
    else
      some (.inr (x1.2.1))
  ) (a, [], 0)
noncomputable def sL26CopyFS : Fsp := { fid := 17, ps := [⟨false, .list (.base .tape)⟩], rs := [⟨false, .list (.base .tape)⟩], ex := true, fn := fun x => sL26Copy x }
noncomputable def sCellIndex (a : GNotebook) (b : Int) : Option (Int) :=
  loopD (fun (x1 : Int × (List GCell) × Int) =>
    bif (decide (x1.2.2 < (x1.2.1.length : Int))) then
      (idx x1.2.1 x1.2.2).bind fun e2 =>
      bif (e2.id == x1.1) then
        some (.inr (x1.2.2))
      else
        some (.inl (x1.1, x1.2.1, w64 (x1.2.2 + 1)))
    else
      some (.inr ((-1)))
  ) (b, a.cells, 0)
noncomputable def sCellIndexFS : Fsp := { fid := 38, ps := [⟨true, .base .notebook⟩, ⟨false, .base .int⟩], rs := [⟨false, .base .int⟩], ex := true, fn := fun x => sCellIndex x.1 x.2 }
noncomputable def sChangedVersions (a : GNotebook) (b : GNotebook) : Option ((List Int)) :=
  loopD (fun (x1 : (List GCell) × (List GCell) × (List Int) × Int) =>
    bif (decide (x1.2.2.2 < (x1.1.length : Int))) then
      (idx x1.1 x1.2.2.2).bind fun e2 =>
      (sCellIndex (GNotebook.mk x1.2.1) e2.id).bind fun r3 =>
      bif (decide (r3 ≥ 0)) then
        (idx x1.2.1 r3).bind fun e4 =>
        (idx x1.1 x1.2.2.2).bind fun e5 =>
        bif (e4.version != e5.version) then
          (idx x1.1 x1.2.2.2).bind fun e6 =>
          (gd (x1.2.2.1.length + [e6.id].length)).bind fun _ =>
          some (.inl (x1.1, x1.2.1, x1.2.2.1 ++ [e6.id], w64 (x1.2.2.2 + 1)))
        else
          some (.inl (x1.1, x1.2.1, x1.2.2.1, w64 (x1.2.2.2 + 1)))
      else
        some (.inl (x1.1, x1.2.1, x1.2.2.1, w64 (x1.2.2.2 + 1)))
    else
      some (.inr (x1.2.2.1))
  ) (a.cells, b.cells, [], 0)
noncomputable def sChangedVersionsFS : Fsp := { fid := 18, ps := [⟨true, .base .notebook⟩, ⟨true, .base .notebook⟩], rs := [⟨false, .list (.base .int)⟩], ex := true, fn := fun x => sChangedVersions x.1 x.2 }
noncomputable def sL38Version (a : GNotebook) (b : Int) : Option (Int) :=
  (sCellIndex a b).bind fun r1 =>
  (idx a.cells r1).bind fun e2 =>
  some (e2.version)
noncomputable def sL38VersionFS : Fsp := { fid := 19, ps := [⟨true, .base .notebook⟩, ⟨false, .base .int⟩], rs := [⟨false, .base .int⟩], ex := true, fn := fun x => sL38Version x.1 x.2 }
noncomputable def sL26At (a : List GTape) (b : Int) (c : Int) : Option (Int) :=
  loopD (fun (x1 : (List GTape) × Int × Int × Int) =>
    bif (decide (x1.2.2.2 < (x1.1.length : Int))) then
      (idx x1.1 x1.2.2.2).bind fun e2 =>
      bif (e2.cell == x1.2.1) then
        (idx x1.1 x1.2.2.2).bind fun e3 =>
        bif (e3.version == x1.2.2.1) then
          some (.inr (x1.2.2.2))
        else
          some (.inl (x1.1, x1.2.1, x1.2.2.1, w64 (x1.2.2.2 + 1)))
      else
        some (.inl (x1.1, x1.2.1, x1.2.2.1, w64 (x1.2.2.2 + 1)))
    else
      some (.inr ((-1)))
  ) (a, b, c, 0)
noncomputable def sL26AtFS : Fsp := { fid := 39, ps := [⟨false, .list (.base .tape)⟩, ⟨false, .base .int⟩, ⟨false, .base .int⟩], rs := [⟨false, .base .int⟩], ex := true, fn := fun x => sL26At x.1 x.2.1 x.2.2 }
noncomputable def sTapeOf (a : List GTape) (b : Int) (c : Int) : Option ((List GRead)) :=
  (sL26At a b c).bind fun r1 =>
  bif (decide (r1 < 0)) then
    some ([])
  else
    (idx a r1).bind fun e2 =>
    (sL16Reads e2.reads).bind fun r3 =>
    some (r3)
noncomputable def sTapeOfFS : Fsp := { fid := 20, ps := [⟨false, .list (.base .tape)⟩, ⟨false, .base .int⟩, ⟨false, .base .int⟩], rs := [⟨false, .list (.base .read)⟩], ex := true, fn := fun x => sTapeOf x.1 x.2.1 x.2.2 }
noncomputable def sL16Same (a : GRead) (b : GRead) : Option (Bool) :=
  bif (a.kind == b.kind) then
    bif (a.n == b.n) then
      bif (a.text == b.text) then
        some ((a.time == b.time))
      else
        some (false)
    else
      some (false)
  else
    some (false)
noncomputable def sL16SameFS : Fsp := { fid := 71, ps := [⟨true, .base .read⟩, ⟨true, .base .read⟩], rs := [⟨false, .base .bool⟩], ex := true, fn := fun x => sL16Same x.1 x.2 }
noncomputable def sFindRead (a : List GRead) (b : GRead) : Option (GVal × Bool) :=
  loopD (fun (x1 : (List GRead) × Int × Int × Int × Str × Int × Int × Int × Str × (List GVal) × (List Str) × (List GRow) × Int × Int × Int × Str × (List GVal) × (List Str) × (List GRow) × Int) =>
    bif (decide (x1.2.2.2.2.2.2.2.2.2.2.2.2.2.2.2.2.2.2.2 < (x1.1.length : Int))) then
      (idx x1.1 x1.2.2.2.2.2.2.2.2.2.2.2.2.2.2.2.2.2.2.2).bind fun e2 =>
      (sL16Same (reRead e2) (GRead.mk x1.2.1 x1.2.2.1 x1.2.2.2.1 x1.2.2.2.2.1 (GVal.mk x1.2.2.2.2.2.1 x1.2.2.2.2.2.2.1 x1.2.2.2.2.2.2.2.1 x1.2.2.2.2.2.2.2.2.1 x1.2.2.2.2.2.2.2.2.2.1 x1.2.2.2.2.2.2.2.2.2.2.1 x1.2.2.2.2.2.2.2.2.2.2.2.1))).bind fun r3 =>
      bif r3 then
        (idx x1.1 x1.2.2.2.2.2.2.2.2.2.2.2.2.2.2.2.2.2.2.2).bind fun e4 =>
        (sL3Copy (reVal e4.result)).bind fun r5 =>
        some (.inr (reVal r5, true))
      else
        some (.inl (x1.1, x1.2.1, x1.2.2.1, x1.2.2.2.1, x1.2.2.2.2.1, x1.2.2.2.2.2.1, x1.2.2.2.2.2.2.1, x1.2.2.2.2.2.2.2.1, x1.2.2.2.2.2.2.2.2.1, x1.2.2.2.2.2.2.2.2.2.1, x1.2.2.2.2.2.2.2.2.2.2.1, x1.2.2.2.2.2.2.2.2.2.2.2.1, x1.2.2.2.2.2.2.2.2.2.2.2.2.1, x1.2.2.2.2.2.2.2.2.2.2.2.2.2.1, x1.2.2.2.2.2.2.2.2.2.2.2.2.2.2.1, x1.2.2.2.2.2.2.2.2.2.2.2.2.2.2.2.1, x1.2.2.2.2.2.2.2.2.2.2.2.2.2.2.2.2.1, x1.2.2.2.2.2.2.2.2.2.2.2.2.2.2.2.2.2.1, x1.2.2.2.2.2.2.2.2.2.2.2.2.2.2.2.2.2.2.1, w64 (x1.2.2.2.2.2.2.2.2.2.2.2.2.2.2.2.2.2.2.2 + 1)))
    else
      some (.inr (GVal.mk 0 0 0 [] [] [] [], false))
  ) (a, b.kind, b.n, b.time, b.text, b.result.kind, b.result.n, b.result.step, b.result.text, b.result.list, b.result.columns, b.result.rows, 0, 0, 0, [], [], [], [], 0)
noncomputable def sFindReadFS : Fsp := { fid := 60, ps := [⟨false, .list (.base .read)⟩, ⟨true, .base .read⟩], rs := [⟨true, .base .val⟩, ⟨false, .base .bool⟩], ex := true, fn := fun x => sFindRead x.1 x.2 }
noncomputable def sMergeReads (a : List GRead) (b : List GRead) : Option ((List GRead)) :=
  (sL16Reads a).bind fun r1 =>
  loopD (fun (x2 : (List GRead) × (List GRead) × Int) =>
    bif (decide (x2.2.2 < (x2.1.length : Int))) then
      (idx x2.1 x2.2.2).bind fun e3 =>
      (sFindRead x2.2.1 (reRead e3)).bind fun r4 =>
      bif (!r4.2) then
        (idx x2.1 x2.2.2).bind fun e5 =>
        (sL16Read (reRead e5)).bind fun r6 =>
        (gd (x2.2.1.length + [reRead r6].length)).bind fun _ =>
        some (.inl (x2.1, x2.2.1 ++ [reRead r6], w64 (x2.2.2 + 1)))
      else
        some (.inl (x2.1, x2.2.1, w64 (x2.2.2 + 1)))
    else
      some (.inr (x2.2.1))
  ) (b, r1, 0)
noncomputable def sMergeReadsFS : Fsp := { fid := 40, ps := [⟨false, .list (.base .read)⟩, ⟨false, .list (.base .read)⟩], rs := [⟨false, .list (.base .read)⟩], ex := true, fn := fun x => sMergeReads x.1 x.2 }
noncomputable def sL26Before (a : GTape) (b : GTape) : Option (Bool) :=
  bif (decide (a.cell < b.cell)) then
    some (true)
  else
    bif (a.cell == b.cell) then
      some ((decide (a.version < b.version)))
    else
      some (false)
noncomputable def sL26BeforeFS : Fsp := { fid := 41, ps := [⟨true, .base .tape⟩, ⟨true, .base .tape⟩], rs := [⟨false, .base .bool⟩], ex := true, fn := fun x => sL26Before x.1 x.2 }
noncomputable def sPutTape (a : List GTape) (b : Int) (c : Int) (d : List GRead) : Option ((List GTape)) :=
  (sL26Copy a).bind fun r1 =>
  (sL26At a b c).bind fun r2 =>
  bif (decide (r2 ≥ 0)) then
    (idx r1 r2).bind fun _ =>
    (r1[r2.toNat]?).bind fun e4 =>
    (sMergeReads e4.reads d).bind fun r5 =>
    (idx r1 r2).bind fun _ =>
    (r1[r2.toNat]?).bind fun e7 =>
    some (r1.set r2.toNat (GTape.mk e7.cell e7.version r5))
  else
  bif ((d.length : Int) == 0) then
    some (r1)
  else
  (sMergeReads [] d).bind fun r8 =>
  loopD (fun (x9 : (List GTape) × Int × Int × (List GRead) × Int) =>
    bif (decide (x9.2.2.2.2 < (x9.1.length : Int))) then
      (idx x9.1 x9.2.2.2.2).bind fun _ =>
      (x9.1[x9.2.2.2.2.toNat]?).bind fun e11 =>
      (sL26Before (GTape.mk x9.2.1 x9.2.2.1 x9.2.2.2.1) e11).bind fun r12 =>
      bif (!r12) then
        some (.inl (x9.1, x9.2.1, x9.2.2.1, x9.2.2.2.1, w64 (x9.2.2.2.2 + 1)))
      else
        (
          (cutAt x9.1 x9.2.2.2.2).bind fun m13 =>
          ((if x9.2.2.2.2 = (m13 : Int) then some () else none)).bind fun _ =>
          (gd (0 + (x9.1.take m13).length)).bind fun _ =>
          (gd (([] ++ (x9.1.take m13)).length + [GTape.mk x9.2.1 x9.2.2.1 x9.2.2.2.1].length)).bind fun _ =>
          ((if x9.2.2.2.2 = (m13 : Int) then some () else none)).bind fun _ =>
          (gd ((([] ++ (x9.1.take m13)) ++ [GTape.mk x9.2.1 x9.2.2.1 x9.2.2.2.1]).length + (x9.1.drop m13).length)).bind fun _ =>
          some ((([] ++ (x9.1.take m13)) ++ [GTape.mk x9.2.1 x9.2.2.1 x9.2.2.2.1]) ++ (x9.1.drop m13))
        ).bind fun r => some (.inr r)
    else
      (
        (cutAt x9.1 x9.2.2.2.2).bind fun m14 =>
        ((if x9.2.2.2.2 = (m14 : Int) then some () else none)).bind fun _ =>
        (gd (0 + (x9.1.take m14).length)).bind fun _ =>
        (gd (([] ++ (x9.1.take m14)).length + [GTape.mk x9.2.1 x9.2.2.1 x9.2.2.2.1].length)).bind fun _ =>
        ((if x9.2.2.2.2 = (m14 : Int) then some () else none)).bind fun _ =>
        (gd ((([] ++ (x9.1.take m14)) ++ [GTape.mk x9.2.1 x9.2.2.1 x9.2.2.2.1]).length + (x9.1.drop m14).length)).bind fun _ =>
        some ((([] ++ (x9.1.take m14)) ++ [GTape.mk x9.2.1 x9.2.2.1 x9.2.2.2.1]) ++ (x9.1.drop m14))
      ).bind fun r => some (.inr r)
  ) (r1, b, c, r8, 0)
noncomputable def sPutTapeFS : Fsp := { fid := 21, ps := [⟨false, .list (.base .tape)⟩, ⟨false, .base .int⟩, ⟨false, .base .int⟩, ⟨false, .list (.base .read)⟩], rs := [⟨false, .list (.base .tape)⟩], ex := true, fn := fun x => sPutTape x.1 x.2.1 x.2.2.1 x.2.2.2 }
noncomputable def sL38Without (a : List GTape) (b : Int) (c : Int) : Option ((List GTape)) :=
  loopD (fun (x1 : (List GTape) × Int × Int × (List GTape) × Int) =>
    bif (decide (x1.2.2.2.2 < (x1.1.length : Int))) then
      (idx x1.1 x1.2.2.2.2).bind fun e2 =>
      bif (e2.cell != x1.2.1) then
        (idx x1.1 x1.2.2.2.2).bind fun e3 =>
        (gd (x1.2.2.2.1.length + [e3].length)).bind fun _ =>
        some (.inl (x1.1, x1.2.1, x1.2.2.1, x1.2.2.2.1 ++ [e3], w64 (x1.2.2.2.2 + 1)))
      else
        (idx x1.1 x1.2.2.2.2).bind fun e4 =>
        bif (e4.version != x1.2.2.1) then
          (idx x1.1 x1.2.2.2.2).bind fun e5 =>
          (gd (x1.2.2.2.1.length + [e5].length)).bind fun _ =>
          some (.inl (x1.1, x1.2.1, x1.2.2.1, x1.2.2.2.1 ++ [e5], w64 (x1.2.2.2.2 + 1)))
        else
          some (.inl (x1.1, x1.2.1, x1.2.2.1, x1.2.2.2.1, w64 (x1.2.2.2.2 + 1)))
    else
      some (.inr (x1.2.2.2.1))
  ) (a, b, c, [], 0)
noncomputable def sL38WithoutFS : Fsp := { fid := 22, ps := [⟨false, .list (.base .tape)⟩, ⟨false, .base .int⟩, ⟨false, .base .int⟩], rs := [⟨false, .list (.base .tape)⟩], ex := false, sh := true, fn := fun x => sL38Without x.1 x.2.1 x.2.2 }
noncomputable def sRenameTapes (a : List GTape) (b : GNotebook) (c : GNotebook) : Option ((List GTape)) :=
  (sL26Copy a).bind fun r1 =>
  (sChangedVersions b c).bind fun r2 =>
  loopD (fun (x3 : (List GCell) × (List GCell) × (List GTape) × (List Int) × Int) =>
    bif (decide (x3.2.2.2.2 < (x3.2.2.2.1.length : Int))) then
      (idx x3.2.2.2.1 x3.2.2.2.2).bind fun _ =>
      (x3.2.2.2.1[x3.2.2.2.2.toNat]?).bind fun e5 =>
      (sL38Version (GNotebook.mk x3.1) e5).bind fun r6 =>
      (idx x3.2.2.2.1 x3.2.2.2.2).bind fun _ =>
      (x3.2.2.2.1[x3.2.2.2.2.toNat]?).bind fun e8 =>
      (sL38Version (GNotebook.mk x3.2.1) e8).bind fun r9 =>
      (idx x3.2.2.2.1 x3.2.2.2.2).bind fun _ =>
      (x3.2.2.2.1[x3.2.2.2.2.toNat]?).bind fun e11 =>
      (sTapeOf x3.2.2.1 e11 r6).bind fun r12 =>
      (idx x3.2.2.2.1 x3.2.2.2.2).bind fun _ =>
      (x3.2.2.2.1[x3.2.2.2.2.toNat]?).bind fun e14 =>
      (sL38Without x3.2.2.1 e14 r9).bind fun r15 =>
      (idx x3.2.2.2.1 x3.2.2.2.2).bind fun _ =>
      (x3.2.2.2.1[x3.2.2.2.2.toNat]?).bind fun e17 =>
      (sPutTape r15 e17 r9 r12).bind fun r18 =>
      some (.inl (x3.1, x3.2.1, r18, x3.2.2.2.1, w64 (x3.2.2.2.2 + 1)))
    else
      some (.inr (x3.2.2.1))
  ) (b.cells, c.cells, r1, r2, 0)
noncomputable def sRenameTapesFS : Fsp := { fid := 6, ps := [⟨false, .list (.base .tape)⟩, ⟨true, .base .notebook⟩, ⟨true, .base .notebook⟩], rs := [⟨false, .list (.base .tape)⟩], ex := true, fn := fun x => sRenameTapes x.1 x.2.1 x.2.2 }
noncomputable def toStringS (a : List Str) : Option ((List Str)) :=
  (mk (a.length : Int)).bind fun m1 =>
  loopD (fun (x2 : (List Str) × (List Str) × Int) =>
    bif (decide (x2.2.2 < (x2.1.length : Int))) then
      (idx x2.1 x2.2.2).bind fun e3 =>
      (idx x2.2.1 x2.2.2).bind fun _ =>
      (x2.2.1[x2.2.2.toNat]?).bind fun e5 =>
      some (.inl (x2.1, x2.2.1.set x2.2.2.toNat e3, w64 (x2.2.2 + 1)))
    else
      some (.inr (x2.2.1))
  ) (a, List.replicate m1 [], 0)
noncomputable def toStringSFS : Fsp := { fid := 82, ps := [⟨false, .list (.base .str)⟩], rs := [⟨false, .list (.base .str)⟩], ex := true, fn := fun x => toStringS x }
noncomputable def toIntS (a : List Int) : Option ((List Int)) :=
  (mk (a.length : Int)).bind fun m1 =>
  loopD (fun (x2 : (List Int) × (List Int) × Int) =>
    bif (decide (x2.2.2 < (x2.1.length : Int))) then
      (idx x2.1 x2.2.2).bind fun e3 =>
      (idx x2.2.1 x2.2.2).bind fun _ =>
      (x2.2.1[x2.2.2.toNat]?).bind fun e5 =>
      some (.inl (x2.1, x2.2.1.set x2.2.2.toNat e3, w64 (x2.2.2 + 1)))
    else
      some (.inr (x2.2.1))
  ) (a, List.replicate m1 0, 0)
noncomputable def toIntSFS : Fsp := { fid := 92, ps := [⟨false, .list (.base .int)⟩], rs := [⟨false, .list (.base .int)⟩], ex := true, fn := fun x => toIntS x }
noncomputable def toOrigin (a : GOrigin) : Option (GOrigin) :=
  some (a)
noncomputable def toOriginFS : Fsp := { fid := 96, ps := [⟨true, .base .origin⟩], rs := [⟨true, .base .origin⟩], ex := true, fn := fun x => toOrigin x }
noncomputable def toOriginS (a : List GOrigin) : Option ((List GOrigin)) :=
  (mk (a.length : Int)).bind fun m1 =>
  loopD (fun (x2 : (List GOrigin) × (List GOrigin) × Int) =>
    bif (decide (x2.2.2 < (x2.1.length : Int))) then
      (idx x2.1 x2.2.2).bind fun e3 =>
      (toOrigin e3).bind fun r4 =>
      (idx x2.2.1 x2.2.2).bind fun _ =>
      (x2.2.1[x2.2.2.toNat]?).bind fun e6 =>
      some (.inl (x2.1, x2.2.1.set x2.2.2.toNat r4, w64 (x2.2.2 + 1)))
    else
      some (.inr (x2.2.1))
  ) (a, List.replicate m1 (GOrigin.mk 0 0), 0)
noncomputable def toOriginSFS : Fsp := { fid := 93, ps := [⟨false, .list (.base .origin)⟩], rs := [⟨false, .list (.base .origin)⟩], ex := true, fn := fun x => toOriginS x }
noncomputable def toRow (a : GRow) : Option (GRow) :=
  (toIntS a.cells).bind fun r1 =>
  (toOriginS a.orig).bind fun r2 =>
  some (GRow.mk r1 r2)
noncomputable def toRowFS : Fsp := { fid := 88, ps := [⟨true, .base .row⟩], rs := [⟨true, .base .row⟩], ex := true, fn := fun x => toRow x }
noncomputable def toRowS (a : List GRow) : Option ((List GRow)) :=
  (mk (a.length : Int)).bind fun m1 =>
  loopD (fun (x2 : (List GRow) × (List GRow) × Int) =>
    bif (decide (x2.2.2 < (x2.1.length : Int))) then
      (idx x2.1 x2.2.2).bind fun e3 =>
      (toRow e3).bind fun r4 =>
      (idx x2.2.1 x2.2.2).bind fun _ =>
      (x2.2.1[x2.2.2.toNat]?).bind fun e6 =>
      some (.inl (x2.1, x2.2.1.set x2.2.2.toNat r4, w64 (x2.2.2 + 1)))
    else
      some (.inr (x2.2.1))
  ) (a, List.replicate m1 (GRow.mk [] []), 0)
noncomputable def toRowSFS : Fsp := { fid := 83, ps := [⟨false, .list (.base .row)⟩], rs := [⟨false, .list (.base .row)⟩], ex := true, fn := fun x => toRowS x }
noncomputable def toValueB (rtoValue : GVal → Option (GVal)) (rtoValueS : (List GVal) → Option ((List GVal))) (a : GVal) : Option (GVal) :=
  (rtoValueS a.list).bind fun r1 =>
  (toStringS a.columns).bind fun r2 =>
  (toRowS a.rows).bind fun r3 =>
  some (GVal.mk a.kind a.n a.step a.text r1 r2 r3)
noncomputable def toValueSB (rtoValue : GVal → Option (GVal)) (rtoValueS : (List GVal) → Option ((List GVal))) (a : List GVal) : Option ((List GVal)) :=
  (mk (a.length : Int)).bind fun m1 =>
  loopD (fun (x2 : (List GVal) × (List GVal) × Int) =>
    bif (decide (x2.2.2 < (x2.1.length : Int))) then
      (idx x2.1 x2.2.2).bind fun e3 =>
      (rtoValue (reVal e3)).bind fun r4 =>
      (idx x2.2.1 x2.2.2).bind fun _ =>
      (x2.2.1[x2.2.2.toNat]?).bind fun e6 =>
      some (.inl (x2.1, x2.2.1.set x2.2.2.toNat (reVal r4), w64 (x2.2.2 + 1)))
    else
      some (.inr (x2.2.1))
  ) (a, List.replicate m1 (GVal.mk 0 0 0 [] [] [] []), 0)
noncomputable def toValueG : Nat → (GVal → Option (GVal)) × ((List GVal) → Option ((List GVal)))
  | 0 => (fun _ => none, fun _ => none)
  | n + 1 => (toValueB (toValueG n).1 (toValueG n).2, toValueSB (toValueG n).1 (toValueG n).2)
noncomputable def toValue (a : GVal) : Option (GVal) := (toValueG (siz a + 1)).1 a
noncomputable def toValueFS : Fsp := { fid := 72, ps := [⟨true, .base .val⟩], rs := [⟨true, .base .val⟩], ex := true, fn := fun x => toValue x }
noncomputable def toValueFSN (n : Nat) : Fsp := { fid := 72, ps := [⟨true, .base .val⟩], rs := [⟨true, .base .val⟩], ex := true, fn := fun x => (toValueG n).1 x }
noncomputable def toValueS (a : List GVal) : Option ((List GVal)) := (toValueG (siz a + 1)).2 a
noncomputable def toValueSFS : Fsp := { fid := 81, ps := [⟨false, .list (.base .val)⟩], rs := [⟨false, .list (.base .val)⟩], ex := true, fn := fun x => toValueS x }
noncomputable def toValueSFSN (n : Nat) : Fsp := { fid := 81, ps := [⟨false, .list (.base .val)⟩], rs := [⟨false, .list (.base .val)⟩], ex := true, fn := fun x => (toValueG n).2 x }
noncomputable def toRead (a : GRead) : Option (GRead) :=
  (toValue (reVal a.result)).bind fun r1 =>
  some (GRead.mk a.kind a.n a.time a.text (reVal r1))
noncomputable def toReadFS : Fsp := { fid := 61, ps := [⟨true, .base .read⟩], rs := [⟨true, .base .read⟩], ex := true, fn := fun x => toRead x }
noncomputable def toReadS (a : List GRead) : Option ((List GRead)) :=
  (mk (a.length : Int)).bind fun m1 =>
  loopD (fun (x2 : (List GRead) × (List GRead) × Int) =>
    bif (decide (x2.2.2 < (x2.1.length : Int))) then
      (idx x2.1 x2.2.2).bind fun e3 =>
      (toRead (reRead e3)).bind fun r4 =>
      (idx x2.2.1 x2.2.2).bind fun _ =>
      (x2.2.1[x2.2.2.toNat]?).bind fun e6 =>
      some (.inl (x2.1, x2.2.1.set x2.2.2.toNat (reRead r4), w64 (x2.2.2 + 1)))
    else
      some (.inr (x2.2.1))
  ) (a, List.replicate m1 (GRead.mk 0 0 0 [] (GVal.mk 0 0 0 [] [] [] [])), 0)
noncomputable def toReadSFS : Fsp := { fid := 42, ps := [⟨false, .list (.base .read)⟩], rs := [⟨false, .list (.base .read)⟩], ex := true, fn := fun x => toReadS x }
noncomputable def toTape (a : GTape) : Option (GTape) :=
  (toReadS a.reads).bind fun r1 =>
  some (GTape.mk a.cell a.version r1)
noncomputable def toTapeFS : Fsp := { fid := 23, ps := [⟨true, .base .tape⟩], rs := [⟨true, .base .tape⟩], ex := true, fn := fun x => toTape x }
noncomputable def toTapeS (a : List GTape) : Option ((List GTape)) :=
  (mk (a.length : Int)).bind fun m1 =>
  loopD (fun (x2 : (List GTape) × (List GTape) × Int) =>
    bif (decide (x2.2.2 < (x2.1.length : Int))) then
      (idx x2.1 x2.2.2).bind fun e3 =>
      (toTape e3).bind fun r4 =>
      (idx x2.2.1 x2.2.2).bind fun _ =>
      (x2.2.1[x2.2.2.toNat]?).bind fun e6 =>
      some (.inl (x2.1, x2.2.1.set x2.2.2.toNat r4, w64 (x2.2.2 + 1)))
    else
      some (.inr (x2.2.1))
  ) (a, List.replicate m1 (GTape.mk 0 0 []), 0)
noncomputable def toTapeSFS : Fsp := { fid := 7, ps := [⟨false, .list (.base .tape)⟩], rs := [⟨false, .list (.base .tape)⟩], ex := true, fn := fun x => toTapeS x }
noncomputable def toCell (a : GCell) : Option (GCell) :=
  some (a)
noncomputable def toCellFS : Fsp := { fid := 43, ps := [⟨true, .base .cell⟩], rs := [⟨true, .base .cell⟩], ex := true, fn := fun x => toCell x }
noncomputable def toCellS (a : List GCell) : Option ((List GCell)) :=
  (mk (a.length : Int)).bind fun m1 =>
  loopD (fun (x2 : (List GCell) × (List GCell) × Int) =>
    bif (decide (x2.2.2 < (x2.1.length : Int))) then
      (idx x2.1 x2.2.2).bind fun e3 =>
      (toCell e3).bind fun r4 =>
      (idx x2.2.1 x2.2.2).bind fun _ =>
      (x2.2.1[x2.2.2.toNat]?).bind fun e6 =>
      some (.inl (x2.1, x2.2.1.set x2.2.2.toNat r4, w64 (x2.2.2 + 1)))
    else
      some (.inr (x2.2.1))
  ) (a, List.replicate m1 (GCell.mk 0 0 0 [] [] 0), 0)
noncomputable def toCellSFS : Fsp := { fid := 24, ps := [⟨false, .list (.base .cell)⟩], rs := [⟨false, .list (.base .cell)⟩], ex := true, fn := fun x => toCellS x }
noncomputable def toNotebook (a : GNotebook) : Option (GNotebook) :=
  (toCellS a.cells).bind fun r1 =>
  some (GNotebook.mk r1)
noncomputable def toNotebookFS : Fsp := { fid := 8, ps := [⟨true, .base .notebook⟩], rs := [⟨true, .base .notebook⟩], ex := true, fn := fun x => toNotebook x }
noncomputable def iCopyRow (a : GRow) : Option (GRow) :=
  (gd (0 + a.cells.length)).bind fun _ =>
  (gd (0 + a.orig.length)).bind fun _ =>
  some (GRow.mk ([] ++ a.cells) ([] ++ a.orig))
noncomputable def iCopyRowFS : Fsp := { fid := 74, ps := [⟨true, .base .row⟩], rs := [⟨true, .base .row⟩], ex := true, fn := fun x => iCopyRow x }
noncomputable def iCopyValueB (riCopyValue : GVal → Option (GVal)) (riCopyValues : (List GVal) → Option ((List GVal))) (a : GVal) : Option (GVal) :=
  (riCopyValues a.list).bind fun r1 =>
  (gd (0 + a.columns.length)).bind fun _ =>
  loopD (fun (x2 : Int × Int × Int × Str × (List GVal) × (List Str) × (List GRow) × Int × Int × Int × Str × (List GVal) × (List Str) × (List GRow) × (List GRow) × Int × Int) =>
    bif (decide (x2.2.2.2.2.2.2.2.2.2.2.2.2.2.2.2.2 < x2.2.2.2.2.2.2.2.2.2.2.2.2.2.2.2.1)) then
      (idx x2.2.2.2.2.2.2.2.2.2.2.2.2.2.2.1 x2.2.2.2.2.2.2.2.2.2.2.2.2.2.2.2.2).bind fun e3 =>
      (iCopyRow e3).bind fun r4 =>
      (gd (x2.2.2.2.2.2.2.2.2.2.2.2.2.2.1.length + [r4].length)).bind fun _ =>
      some (.inl (x2.1, x2.2.1, x2.2.2.1, x2.2.2.2.1, x2.2.2.2.2.1, x2.2.2.2.2.2.1, x2.2.2.2.2.2.2.1, x2.2.2.2.2.2.2.2.1, x2.2.2.2.2.2.2.2.2.1, x2.2.2.2.2.2.2.2.2.2.1, x2.2.2.2.2.2.2.2.2.2.2.1, x2.2.2.2.2.2.2.2.2.2.2.2.1, x2.2.2.2.2.2.2.2.2.2.2.2.2.1, x2.2.2.2.2.2.2.2.2.2.2.2.2.2.1 ++ [r4], x2.2.2.2.2.2.2.2.2.2.2.2.2.2.2.1, x2.2.2.2.2.2.2.2.2.2.2.2.2.2.2.2.1, w64 (x2.2.2.2.2.2.2.2.2.2.2.2.2.2.2.2.2 + 1)))
    else
      some (.inr (GVal.mk x2.2.2.2.2.2.2.2.1 x2.2.2.2.2.2.2.2.2.1 x2.2.2.2.2.2.2.2.2.2.1 x2.2.2.2.2.2.2.2.2.2.2.1 x2.2.2.2.2.2.2.2.2.2.2.2.1 x2.2.2.2.2.2.2.2.2.2.2.2.2.1 x2.2.2.2.2.2.2.2.2.2.2.2.2.2.1))
  ) (0, 0, 0, [], [], [], [], a.kind, a.n, a.step, a.text, r1, [] ++ a.columns, [], a.rows, (a.rows.length : Int), 0)
noncomputable def iCopyValuesB (riCopyValue : GVal → Option (GVal)) (riCopyValues : (List GVal) → Option ((List GVal))) (a : List GVal) : Option ((List GVal)) :=
  loopD (fun (x1 : (List GVal) × (List GVal) × Int × Int) =>
    bif (decide (x1.2.2.2 < x1.2.2.1)) then
      (idx x1.2.1 x1.2.2.2).bind fun e2 =>
      (riCopyValue (reVal e2)).bind fun r3 =>
      (gd (x1.1.length + [reVal r3].length)).bind fun _ =>
      some (.inl (x1.1 ++ [reVal r3], x1.2.1, x1.2.2.1, w64 (x1.2.2.2 + 1)))
    else
      some (.inr (x1.1))
  ) ([], a, (a.length : Int), 0)
noncomputable def iCopyValueG : Nat → (GVal → Option (GVal)) × ((List GVal) → Option ((List GVal)))
  | 0 => (fun _ => none, fun _ => none)
  | n + 1 => (iCopyValueB (iCopyValueG n).1 (iCopyValueG n).2, iCopyValuesB (iCopyValueG n).1 (iCopyValueG n).2)
noncomputable def iCopyValue (a : GVal) : Option (GVal) := (iCopyValueG (siz a + 1)).1 a
noncomputable def iCopyValueFS : Fsp := { fid := 62, ps := [⟨true, .base .val⟩], rs := [⟨true, .base .val⟩], ex := true, fn := fun x => iCopyValue x }
noncomputable def iCopyValueFSN (n : Nat) : Fsp := { fid := 62, ps := [⟨true, .base .val⟩], rs := [⟨true, .base .val⟩], ex := true, fn := fun x => (iCopyValueG n).1 x }
noncomputable def iCopyValues (a : List GVal) : Option ((List GVal)) := (iCopyValueG (siz a + 1)).2 a
noncomputable def iCopyValuesFS : Fsp := { fid := 73, ps := [⟨false, .list (.base .val)⟩], rs := [⟨false, .list (.base .val)⟩], ex := true, fn := fun x => iCopyValues x }
noncomputable def iCopyValuesFSN (n : Nat) : Fsp := { fid := 73, ps := [⟨false, .list (.base .val)⟩], rs := [⟨false, .list (.base .val)⟩], ex := true, fn := fun x => (iCopyValueG n).2 x }
noncomputable def iCopyReads (a : List GRead) : Option ((List GRead)) :=
  loopD (fun (x1 : (List GRead) × (List GRead) × Int × Int) =>
    bif (decide (x1.2.2.2 < x1.2.2.1)) then
      (idx x1.2.1 x1.2.2.2).bind fun e2 =>
      (iCopyValue (reVal e2.result)).bind fun r3 =>
      (gd (x1.1.length + [GRead.mk e2.kind e2.n e2.time e2.text (reVal r3)].length)).bind fun _ =>
      some (.inl (x1.1 ++ [GRead.mk e2.kind e2.n e2.time e2.text (reVal r3)], x1.2.1, x1.2.2.1, w64 (x1.2.2.2 + 1)))
    else
      some (.inr (x1.1))
  ) ([], a, (a.length : Int), 0)
noncomputable def iCopyReadsFS : Fsp := { fid := 44, ps := [⟨false, .list (.base .read)⟩], rs := [⟨false, .list (.base .read)⟩], ex := true, fn := fun x => iCopyReads x }
noncomputable def iCopyTapes (a : List GTape) : Option ((List GTape)) :=
  loopD (fun (x1 : (List GTape) × (List GTape) × Int × Int) =>
    bif (decide (x1.2.2.2 < x1.2.2.1)) then
      (idx x1.2.1 x1.2.2.2).bind fun e2 =>
      (iCopyReads e2.reads).bind fun r3 =>
      (gd (x1.1.length + [GTape.mk e2.cell e2.version r3].length)).bind fun _ =>
      some (.inl (x1.1 ++ [GTape.mk e2.cell e2.version r3], x1.2.1, x1.2.2.1, w64 (x1.2.2.2 + 1)))
    else
      some (.inr (x1.1))
  ) ([], a, (a.length : Int), 0)
noncomputable def iCopyTapesFS : Fsp := { fid := 25, ps := [⟨false, .list (.base .tape)⟩], rs := [⟨false, .list (.base .tape)⟩], ex := true, fn := fun x => iCopyTapes x }
noncomputable def iCellIndex (a : GNotebook) (b : Int) : Option (Int) :=
  loopD (fun (x1 : Int × (List GCell) × Int × Int) =>
    bif (decide (x1.2.2.2 < x1.2.2.1)) then
      (idx x1.2.1 x1.2.2.2).bind fun e2 =>
      bif (e2.id == x1.1) then
        some (.inr (x1.2.2.2))
      else
        some (.inl (x1.1, x1.2.1, x1.2.2.1, w64 (x1.2.2.2 + 1)))
    else
      some (.inr ((-1)))
  ) (b, a.cells, (a.cells.length : Int), 0)
noncomputable def iCellIndexFS : Fsp := { fid := 45, ps := [⟨true, .base .notebook⟩, ⟨false, .base .int⟩], rs := [⟨false, .base .int⟩], ex := true, fn := fun x => iCellIndex x.1 x.2 }
noncomputable def iChangedVersions (a : GNotebook) (b : GNotebook) : Option ((List Int)) :=
  loopD (fun (x1 : (List GCell) × (List Int) × (List GCell) × Int × Int) =>
    bif (decide (x1.2.2.2.2 < x1.2.2.2.1)) then
      (idx x1.2.2.1 x1.2.2.2.2).bind fun e2 =>
      (iCellIndex (GNotebook.mk x1.1) e2.id).bind fun r3 =>
      bif (decide (r3 ≥ 0)) then
        (idx x1.1 r3).bind fun e4 =>
        bif (e4.version != e2.version) then
          (gd (x1.2.1.length + [e2.id].length)).bind fun _ =>
          some (.inl (x1.1, x1.2.1 ++ [e2.id], x1.2.2.1, x1.2.2.2.1, w64 (x1.2.2.2.2 + 1)))
        else
          some (.inl (x1.1, x1.2.1, x1.2.2.1, x1.2.2.2.1, w64 (x1.2.2.2.2 + 1)))
      else
        some (.inl (x1.1, x1.2.1, x1.2.2.1, x1.2.2.2.1, w64 (x1.2.2.2.2 + 1)))
    else
      some (.inr (x1.2.1))
  ) (b.cells, [], a.cells, (a.cells.length : Int), 0)
noncomputable def iChangedVersionsFS : Fsp := { fid := 26, ps := [⟨true, .base .notebook⟩, ⟨true, .base .notebook⟩], rs := [⟨false, .list (.base .int)⟩], ex := true, fn := fun x => iChangedVersions x.1 x.2 }
noncomputable def iVersionIn (a : GNotebook) (b : Int) : Option (Int) :=
  (iCellIndex a b).bind fun r1 =>
  (idx a.cells r1).bind fun e2 =>
  some (e2.version)
noncomputable def iVersionInFS : Fsp := { fid := 27, ps := [⟨true, .base .notebook⟩, ⟨false, .base .int⟩], rs := [⟨false, .base .int⟩], ex := true, fn := fun x => iVersionIn x.1 x.2 }
noncomputable def iTapeIndex (a : List GTape) (b : Int) (c : Int) : Option (Int) :=
  loopD (fun (x1 : Int × Int × (List GTape) × Int × Int) =>
    bif (decide (x1.2.2.2.2 < x1.2.2.2.1)) then
      (idx x1.2.2.1 x1.2.2.2.2).bind fun e2 =>
      bif (e2.cell == x1.1) then
        bif (e2.version == x1.2.1) then
          some (.inr (x1.2.2.2.2))
        else
          some (.inl (x1.1, x1.2.1, x1.2.2.1, x1.2.2.2.1, w64 (x1.2.2.2.2 + 1)))
      else
        some (.inl (x1.1, x1.2.1, x1.2.2.1, x1.2.2.2.1, w64 (x1.2.2.2.2 + 1)))
    else
      some (.inr ((-1)))
  ) (b, c, a, (a.length : Int), 0)
noncomputable def iTapeIndexFS : Fsp := { fid := 46, ps := [⟨false, .list (.base .tape)⟩, ⟨false, .base .int⟩, ⟨false, .base .int⟩], rs := [⟨false, .base .int⟩], ex := true, fn := fun x => iTapeIndex x.1 x.2.1 x.2.2 }
noncomputable def iSameRead (a : GRead) (b : GRead) : Option (Bool) :=
  bif (a.kind == b.kind) then
    bif (a.n == b.n) then
      bif (a.text == b.text) then
        some ((a.time == b.time))
      else
        some (false)
    else
      some (false)
  else
    some (false)
noncomputable def iSameReadFS : Fsp := { fid := 75, ps := [⟨true, .base .read⟩, ⟨true, .base .read⟩], rs := [⟨false, .base .bool⟩], ex := true, fn := fun x => iSameRead x.1 x.2 }
noncomputable def iFindRead (a : List GRead) (b : GRead) : Option (GVal × Bool) :=
  loopD (fun (x1 : Int × Int × Int × Str × Int × Int × Int × Str × (List GVal) × (List Str) × (List GRow) × Int × Int × Int × Str × (List GVal) × (List Str) × (List GRow) × (List GRead) × Int × Int) =>
    bif (decide (x1.2.2.2.2.2.2.2.2.2.2.2.2.2.2.2.2.2.2.2.2 < x1.2.2.2.2.2.2.2.2.2.2.2.2.2.2.2.2.2.2.2.1)) then
      (idx x1.2.2.2.2.2.2.2.2.2.2.2.2.2.2.2.2.2.2.1 x1.2.2.2.2.2.2.2.2.2.2.2.2.2.2.2.2.2.2.2.2).bind fun e2 =>
      (iSameRead (reRead e2) (GRead.mk x1.1 x1.2.1 x1.2.2.1 x1.2.2.2.1 (GVal.mk x1.2.2.2.2.1 x1.2.2.2.2.2.1 x1.2.2.2.2.2.2.1 x1.2.2.2.2.2.2.2.1 x1.2.2.2.2.2.2.2.2.1 x1.2.2.2.2.2.2.2.2.2.1 x1.2.2.2.2.2.2.2.2.2.2.1))).bind fun r3 =>
      bif r3 then
        (iCopyValue (reVal e2.result)).bind fun r4 =>
        some (.inr (reVal r4, true))
      else
        some (.inl (x1.1, x1.2.1, x1.2.2.1, x1.2.2.2.1, x1.2.2.2.2.1, x1.2.2.2.2.2.1, x1.2.2.2.2.2.2.1, x1.2.2.2.2.2.2.2.1, x1.2.2.2.2.2.2.2.2.1, x1.2.2.2.2.2.2.2.2.2.1, x1.2.2.2.2.2.2.2.2.2.2.1, x1.2.2.2.2.2.2.2.2.2.2.2.1, x1.2.2.2.2.2.2.2.2.2.2.2.2.1, x1.2.2.2.2.2.2.2.2.2.2.2.2.2.1, x1.2.2.2.2.2.2.2.2.2.2.2.2.2.2.1, x1.2.2.2.2.2.2.2.2.2.2.2.2.2.2.2.1, x1.2.2.2.2.2.2.2.2.2.2.2.2.2.2.2.2.1, x1.2.2.2.2.2.2.2.2.2.2.2.2.2.2.2.2.2.1, x1.2.2.2.2.2.2.2.2.2.2.2.2.2.2.2.2.2.2.1, x1.2.2.2.2.2.2.2.2.2.2.2.2.2.2.2.2.2.2.2.1, w64 (x1.2.2.2.2.2.2.2.2.2.2.2.2.2.2.2.2.2.2.2.2 + 1)))
    else
      some (.inr (GVal.mk 0 0 0 [] [] [] [], false))
  ) (b.kind, b.n, b.time, b.text, b.result.kind, b.result.n, b.result.step, b.result.text, b.result.list, b.result.columns, b.result.rows, 0, 0, 0, [], [], [], [], a, (a.length : Int), 0)
noncomputable def iFindReadFS : Fsp := { fid := 63, ps := [⟨false, .list (.base .read)⟩, ⟨true, .base .read⟩], rs := [⟨true, .base .val⟩, ⟨false, .base .bool⟩], ex := true, fn := fun x => iFindRead x.1 x.2 }
noncomputable def iMergeReads (a : List GRead) (b : List GRead) : Option ((List GRead)) :=
  (iCopyReads a).bind fun r1 =>
  loopD (fun (x2 : (List GRead) × (List GRead) × Int × Int) =>
    bif (decide (x2.2.2.2 < x2.2.2.1)) then
      (idx x2.2.1 x2.2.2.2).bind fun e3 =>
      (iFindRead x2.1 (reRead e3)).bind fun r4 =>
      bif (!r4.2) then
        (iCopyReads [reRead e3]).bind fun r5 =>
        (gd (x2.1.length + r5.length)).bind fun _ =>
        some (.inl (x2.1 ++ r5, x2.2.1, x2.2.2.1, w64 (x2.2.2.2 + 1)))
      else
        some (.inl (x2.1, x2.2.1, x2.2.2.1, w64 (x2.2.2.2 + 1)))
    else
      some (.inr (x2.1))
  ) (r1, b, (b.length : Int), 0)
noncomputable def iMergeReadsFS : Fsp := { fid := 47, ps := [⟨false, .list (.base .read)⟩, ⟨false, .list (.base .read)⟩], rs := [⟨false, .list (.base .read)⟩], ex := true, fn := fun x => iMergeReads x.1 x.2 }
noncomputable def iTapeBefore (a : GTape) (b : GTape) : Option (Bool) :=
  bif (decide (a.cell < b.cell)) then
    some (true)
  else
    bif (a.cell == b.cell) then
      some ((decide (a.version < b.version)))
    else
      some (false)
noncomputable def iTapeBeforeFS : Fsp := { fid := 48, ps := [⟨true, .base .tape⟩, ⟨true, .base .tape⟩], rs := [⟨false, .base .bool⟩], ex := true, fn := fun x => iTapeBefore x.1 x.2 }
noncomputable def iPutTape (a : List GTape) (b : Int) (c : Int) (d : List GRead) : Option ((List GTape)) :=
  (iCopyTapes a).bind fun r1 =>
  (iTapeIndex a b c).bind fun r2 =>
  bif (decide (r2 ≥ 0)) then
    (idx r1 r2).bind fun _ =>
    (r1[r2.toNat]?).bind fun e4 =>
    (iMergeReads e4.reads d).bind fun r5 =>
    (idx r1 r2).bind fun _ =>
    (r1[r2.toNat]?).bind fun e7 =>
    some (r1.set r2.toNat (GTape.mk e7.cell e7.version r5))
  else
  bif ((d.length : Int) == 0) then
    some (r1)
  else
  (iMergeReads [] d).bind fun r8 =>
  loopD (fun (x9 : (List GTape) × Int × Int × Int × (List GRead)) =>
    bif (decide (x9.2.1 < (x9.1.length : Int))) then
      (idx x9.1 x9.2.1).bind fun _ =>
      (x9.1[x9.2.1.toNat]?).bind fun e11 =>
      (iTapeBefore (GTape.mk x9.2.2.1 x9.2.2.2.1 x9.2.2.2.2) e11).bind fun r12 =>
      bif (!r12) then
        some (.inl (x9.1, w64 (x9.2.1 + 1), x9.2.2.1, x9.2.2.2.1, x9.2.2.2.2))
      else
        (
          (cutAt x9.1 x9.2.1).bind fun m13 =>
          ((if x9.2.1 = (m13 : Int) then some () else none)).bind fun _ =>
          (gd (0 + (x9.1.take m13).length)).bind fun _ =>
          (gd (([] ++ (x9.1.take m13)).length + [GTape.mk x9.2.2.1 x9.2.2.2.1 x9.2.2.2.2].length)).bind fun _ =>
          ((if x9.2.1 = (m13 : Int) then some () else none)).bind fun _ =>
          (gd ((([] ++ (x9.1.take m13)) ++ [GTape.mk x9.2.2.1 x9.2.2.2.1 x9.2.2.2.2]).length + (x9.1.drop m13).length)).bind fun _ =>
          some ((([] ++ (x9.1.take m13)) ++ [GTape.mk x9.2.2.1 x9.2.2.2.1 x9.2.2.2.2]) ++ (x9.1.drop m13))
        ).bind fun r => some (.inr r)
    else
      (
        (cutAt x9.1 x9.2.1).bind fun m14 =>
        ((if x9.2.1 = (m14 : Int) then some () else none)).bind fun _ =>
        (gd (0 + (x9.1.take m14).length)).bind fun _ =>
        (gd (([] ++ (x9.1.take m14)).length + [GTape.mk x9.2.2.1 x9.2.2.2.1 x9.2.2.2.2].length)).bind fun _ =>
        ((if x9.2.1 = (m14 : Int) then some () else none)).bind fun _ =>
        (gd ((([] ++ (x9.1.take m14)) ++ [GTape.mk x9.2.2.1 x9.2.2.2.1 x9.2.2.2.2]).length + (x9.1.drop m14).length)).bind fun _ =>
        some ((([] ++ (x9.1.take m14)) ++ [GTape.mk x9.2.2.1 x9.2.2.2.1 x9.2.2.2.2]) ++ (x9.1.drop m14))
      ).bind fun r => some (.inr r)
  ) (r1, 0, b, c, r8)
noncomputable def iPutTapeFS : Fsp := { fid := 28, ps := [⟨false, .list (.base .tape)⟩, ⟨false, .base .int⟩, ⟨false, .base .int⟩, ⟨false, .list (.base .read)⟩], rs := [⟨false, .list (.base .tape)⟩], ex := true, fn := fun x => iPutTape x.1 x.2.1 x.2.2.1 x.2.2.2 }
noncomputable def iTapeOf (a : List GTape) (b : Int) (c : Int) : Option ((List GRead)) :=
  (iTapeIndex a b c).bind fun r1 =>
  bif (decide (r1 < 0)) then
    some ([])
  else
    (idx a r1).bind fun e2 =>
    (iCopyReads e2.reads).bind fun r3 =>
    some (r3)
noncomputable def iTapeOfFS : Fsp := { fid := 29, ps := [⟨false, .list (.base .tape)⟩, ⟨false, .base .int⟩, ⟨false, .base .int⟩], rs := [⟨false, .list (.base .read)⟩], ex := true, fn := fun x => iTapeOf x.1 x.2.1 x.2.2 }
noncomputable def iRenameTapes (a : List GTape) (b : GNotebook) (c : GNotebook) : Option ((List GTape)) :=
  (iCopyTapes a).bind fun r1 =>
  (iChangedVersions b c).bind fun r2 =>
  loopD (fun (x3 : (List GCell) × (List GCell) × (List GTape) × (List Int) × Int × Int) =>
    bif (decide (x3.2.2.2.2.2 < x3.2.2.2.2.1)) then
      (idx x3.2.2.2.1 x3.2.2.2.2.2).bind fun _ =>
      (x3.2.2.2.1[x3.2.2.2.2.2.toNat]?).bind fun e5 =>
      (iVersionIn (GNotebook.mk x3.2.1) e5).bind fun r6 =>
      loopD (fun (x7 : (List GCell) × (List GCell) × (List GTape) × Int × Int × (List GTape) × (List Int) × Int × Int × (List GTape) × Int × Int) =>
        bif (decide (x7.2.2.2.2.2.2.2.2.2.2.2 < x7.2.2.2.2.2.2.2.2.2.2.1)) then
          (idx x7.2.2.2.2.2.2.2.2.2.1 x7.2.2.2.2.2.2.2.2.2.2.2).bind fun e8 =>
          bif (e8.cell != x7.2.2.2.1) then
            (gd (x7.2.2.2.2.2.1.length + [e8].length)).bind fun _ =>
            some (.inl (x7.1, x7.2.1, x7.2.2.1, x7.2.2.2.1, x7.2.2.2.2.1, x7.2.2.2.2.2.1 ++ [e8], x7.2.2.2.2.2.2.1, x7.2.2.2.2.2.2.2.1, x7.2.2.2.2.2.2.2.2.1, x7.2.2.2.2.2.2.2.2.2.1, x7.2.2.2.2.2.2.2.2.2.2.1, w64 (x7.2.2.2.2.2.2.2.2.2.2.2 + 1)))
          else
            bif (e8.version != x7.2.2.2.2.1) then
              (gd (x7.2.2.2.2.2.1.length + [e8].length)).bind fun _ =>
              some (.inl (x7.1, x7.2.1, x7.2.2.1, x7.2.2.2.1, x7.2.2.2.2.1, x7.2.2.2.2.2.1 ++ [e8], x7.2.2.2.2.2.2.1, x7.2.2.2.2.2.2.2.1, x7.2.2.2.2.2.2.2.2.1, x7.2.2.2.2.2.2.2.2.2.1, x7.2.2.2.2.2.2.2.2.2.2.1, w64 (x7.2.2.2.2.2.2.2.2.2.2.2 + 1)))
            else
              some (.inl (x7.1, x7.2.1, x7.2.2.1, x7.2.2.2.1, x7.2.2.2.2.1, x7.2.2.2.2.2.1, x7.2.2.2.2.2.2.1, x7.2.2.2.2.2.2.2.1, x7.2.2.2.2.2.2.2.2.1, x7.2.2.2.2.2.2.2.2.2.1, x7.2.2.2.2.2.2.2.2.2.2.1, w64 (x7.2.2.2.2.2.2.2.2.2.2.2 + 1)))
        else
          (
            (iVersionIn (GNotebook.mk x7.1) x7.2.2.2.1).bind fun r9 =>
            (iTapeOf x7.2.2.1 x7.2.2.2.1 r9).bind fun r10 =>
            (iPutTape x7.2.2.2.2.2.1 x7.2.2.2.1 x7.2.2.2.2.1 r10).bind fun r11 =>
            some (.inl (x7.1, x7.2.1, r11, x7.2.2.2.2.2.2.1, x7.2.2.2.2.2.2.2.1, w64 (x7.2.2.2.2.2.2.2.2.1 + 1)))
          ).bind fun r => some (.inr r)
      ) (x3.1, x3.2.1, x3.2.2.1, e5, r6, [], x3.2.2.2.1, x3.2.2.2.2.1, x3.2.2.2.2.2, x3.2.2.1, (x3.2.2.1.length : Int), 0)
    else
      some (.inr (x3.2.2.1))
  ) (b.cells, c.cells, r1, r2, (r2.length : Int), 0)
noncomputable def iRenameTapesFS : Fsp := { fid := 9, ps := [⟨false, .list (.base .tape)⟩, ⟨true, .base .notebook⟩, ⟨true, .base .notebook⟩], rs := [⟨false, .list (.base .tape)⟩], ex := true, fn := fun x => iRenameTapes x.1 x.2.1 x.2.2 }
noncomputable def eqStringS (a : List Str) (b : List Str) : Option (Bool) :=
  bif ((a.length : Int) != (b.length : Int)) then
    some (false)
  else
  loopD (fun (x1 : (List Str) × (List Str) × Int) =>
    bif (decide (x1.2.2 < (x1.1.length : Int))) then
      (idx x1.1 x1.2.2).bind fun e2 =>
      (idx x1.2.1 x1.2.2).bind fun e3 =>
      bif (!(e2 == e3)) then
        some (.inr (false))
      else
        some (.inl (x1.1, x1.2.1, w64 (x1.2.2 + 1)))
    else
      some (.inr (true))
  ) (a, b, 0)
noncomputable def eqStringSFS : Fsp := { fid := 85, ps := [⟨false, .list (.base .str)⟩, ⟨false, .list (.base .str)⟩], rs := [⟨false, .base .bool⟩], ex := true, fn := fun x => eqStringS x.1 x.2 }
noncomputable def eqIntS (a : List Int) (b : List Int) : Option (Bool) :=
  bif ((a.length : Int) != (b.length : Int)) then
    some (false)
  else
  loopD (fun (x1 : (List Int) × (List Int) × Int) =>
    bif (decide (x1.2.2 < (x1.1.length : Int))) then
      (idx x1.1 x1.2.2).bind fun e2 =>
      (idx x1.2.1 x1.2.2).bind fun e3 =>
      bif (e2 != e3) then
        some (.inr (false))
      else
        some (.inl (x1.1, x1.2.1, w64 (x1.2.2 + 1)))
    else
      some (.inr (true))
  ) (a, b, 0)
noncomputable def eqIntSFS : Fsp := { fid := 94, ps := [⟨false, .list (.base .int)⟩, ⟨false, .list (.base .int)⟩], rs := [⟨false, .base .bool⟩], ex := true, fn := fun x => eqIntS x.1 x.2 }
noncomputable def eqOrigin (a : GOrigin) (b : GOrigin) : Option (Bool) :=
  bif (a.cell != b.cell) then
    some (false)
  else
    bif (a.row != b.row) then
      some (false)
    else
      some (true)
noncomputable def eqOriginFS : Fsp := { fid := 97, ps := [⟨true, .base .origin⟩, ⟨true, .base .origin⟩], rs := [⟨false, .base .bool⟩], ex := true, fn := fun x => eqOrigin x.1 x.2 }
noncomputable def eqOriginS (a : List GOrigin) (b : List GOrigin) : Option (Bool) :=
  bif ((a.length : Int) != (b.length : Int)) then
    some (false)
  else
  loopD (fun (x1 : (List GOrigin) × (List GOrigin) × Int) =>
    bif (decide (x1.2.2 < (x1.1.length : Int))) then
      (idx x1.1 x1.2.2).bind fun e2 =>
      (idx x1.2.1 x1.2.2).bind fun e3 =>
      (eqOrigin e2 e3).bind fun r4 =>
      bif (!r4) then
        some (.inr (false))
      else
        some (.inl (x1.1, x1.2.1, w64 (x1.2.2 + 1)))
    else
      some (.inr (true))
  ) (a, b, 0)
noncomputable def eqOriginSFS : Fsp := { fid := 95, ps := [⟨false, .list (.base .origin)⟩, ⟨false, .list (.base .origin)⟩], rs := [⟨false, .base .bool⟩], ex := true, fn := fun x => eqOriginS x.1 x.2 }
noncomputable def eqRow (a : GRow) (b : GRow) : Option (Bool) :=
  (eqIntS a.cells b.cells).bind fun r1 =>
  bif (!r1) then
    some (false)
  else
    (eqOriginS a.orig b.orig).bind fun r2 =>
    bif (!r2) then
      some (false)
    else
      some (true)
noncomputable def eqRowFS : Fsp := { fid := 89, ps := [⟨true, .base .row⟩, ⟨true, .base .row⟩], rs := [⟨false, .base .bool⟩], ex := true, fn := fun x => eqRow x.1 x.2 }
noncomputable def eqRowS (a : List GRow) (b : List GRow) : Option (Bool) :=
  bif ((a.length : Int) != (b.length : Int)) then
    some (false)
  else
  loopD (fun (x1 : (List GRow) × (List GRow) × Int) =>
    bif (decide (x1.2.2 < (x1.1.length : Int))) then
      (idx x1.1 x1.2.2).bind fun e2 =>
      (idx x1.2.1 x1.2.2).bind fun e3 =>
      (eqRow e2 e3).bind fun r4 =>
      bif (!r4) then
        some (.inr (false))
      else
        some (.inl (x1.1, x1.2.1, w64 (x1.2.2 + 1)))
    else
      some (.inr (true))
  ) (a, b, 0)
noncomputable def eqRowSFS : Fsp := { fid := 86, ps := [⟨false, .list (.base .row)⟩, ⟨false, .list (.base .row)⟩], rs := [⟨false, .base .bool⟩], ex := true, fn := fun x => eqRowS x.1 x.2 }
noncomputable def eqValueB (reqValue : GVal → GVal → Option (Bool)) (reqValueS : (List GVal) → (List GVal) → Option (Bool)) (a : GVal) (b : GVal) : Option (Bool) :=
  bif (a.kind != b.kind) then
    some (false)
  else
  bif (a.n != b.n) then
    some (false)
  else
  bif (a.step != b.step) then
    some (false)
  else
  bif (!(a.text == b.text)) then
    some (false)
  else
  (reqValueS a.list b.list).bind fun r1 =>
  bif (!r1) then
    some (false)
  else
    (eqStringS a.columns b.columns).bind fun r2 =>
    bif (!r2) then
      some (false)
    else
      (eqRowS a.rows b.rows).bind fun r3 =>
      bif (!r3) then
        some (false)
      else
        some (true)
noncomputable def eqValueSB (reqValue : GVal → GVal → Option (Bool)) (reqValueS : (List GVal) → (List GVal) → Option (Bool)) (a : List GVal) (b : List GVal) : Option (Bool) :=
  bif ((a.length : Int) != (b.length : Int)) then
    some (false)
  else
  loopD (fun (x1 : (List GVal) × (List GVal) × Int) =>
    bif (decide (x1.2.2 < (x1.1.length : Int))) then
      (idx x1.1 x1.2.2).bind fun e2 =>
      (idx x1.2.1 x1.2.2).bind fun e3 =>
      (reqValue (reVal e2) (reVal e3)).bind fun r4 =>
      bif (!r4) then
        some (.inr (false))
      else
        some (.inl (x1.1, x1.2.1, w64 (x1.2.2 + 1)))
    else
      some (.inr (true))
  ) (a, b, 0)
noncomputable def eqValueG : Nat → (GVal → GVal → Option (Bool)) × ((List GVal) → (List GVal) → Option (Bool))
  | 0 => (fun _ _ => none, fun _ _ => none)
  | n + 1 => (eqValueB (eqValueG n).1 (eqValueG n).2, eqValueSB (eqValueG n).1 (eqValueG n).2)
noncomputable def eqValue (a : GVal) (b : GVal) : Option (Bool) := (eqValueG (siz a + siz b + 1)).1 a b
noncomputable def eqValueFS : Fsp := { fid := 76, ps := [⟨true, .base .val⟩, ⟨true, .base .val⟩], rs := [⟨false, .base .bool⟩], ex := true, fn := fun x => eqValue x.1 x.2 }
noncomputable def eqValueFSN (n : Nat) : Fsp := { fid := 76, ps := [⟨true, .base .val⟩, ⟨true, .base .val⟩], rs := [⟨false, .base .bool⟩], ex := true, fn := fun x => (eqValueG n).1 x.1 x.2 }
noncomputable def eqValueS (a : List GVal) (b : List GVal) : Option (Bool) := (eqValueG (siz a + siz b + 1)).2 a b
noncomputable def eqValueSFS : Fsp := { fid := 84, ps := [⟨false, .list (.base .val)⟩, ⟨false, .list (.base .val)⟩], rs := [⟨false, .base .bool⟩], ex := true, fn := fun x => eqValueS x.1 x.2 }
noncomputable def eqValueSFSN (n : Nat) : Fsp := { fid := 84, ps := [⟨false, .list (.base .val)⟩, ⟨false, .list (.base .val)⟩], rs := [⟨false, .base .bool⟩], ex := true, fn := fun x => (eqValueG n).2 x.1 x.2 }
noncomputable def eqRead (a : GRead) (b : GRead) : Option (Bool) :=
  bif (a.kind != b.kind) then
    some (false)
  else
  bif (a.n != b.n) then
    some (false)
  else
  bif (a.time != b.time) then
    some (false)
  else
    bif (!(a.text == b.text)) then
      some (false)
    else
      (eqValue (reVal a.result) (reVal b.result)).bind fun r1 =>
      bif (!r1) then
        some (false)
      else
        some (true)
noncomputable def eqReadFS : Fsp := { fid := 64, ps := [⟨true, .base .read⟩, ⟨true, .base .read⟩], rs := [⟨false, .base .bool⟩], ex := true, fn := fun x => eqRead x.1 x.2 }
noncomputable def eqReadS (a : List GRead) (b : List GRead) : Option (Bool) :=
  bif ((a.length : Int) != (b.length : Int)) then
    some (false)
  else
  loopD (fun (x1 : (List GRead) × (List GRead) × Int) =>
    bif (decide (x1.2.2 < (x1.1.length : Int))) then
      (idx x1.1 x1.2.2).bind fun e2 =>
      (idx x1.2.1 x1.2.2).bind fun e3 =>
      (eqRead (reRead e2) (reRead e3)).bind fun r4 =>
      bif (!r4) then
        some (.inr (false))
      else
        some (.inl (x1.1, x1.2.1, w64 (x1.2.2 + 1)))
    else
      some (.inr (true))
  ) (a, b, 0)
noncomputable def eqReadSFS : Fsp := { fid := 49, ps := [⟨false, .list (.base .read)⟩, ⟨false, .list (.base .read)⟩], rs := [⟨false, .base .bool⟩], ex := true, fn := fun x => eqReadS x.1 x.2 }
noncomputable def eqTape (a : GTape) (b : GTape) : Option (Bool) :=
  bif (a.cell != b.cell) then
    some (false)
  else
    bif (a.version != b.version) then
      some (false)
    else
      (eqReadS a.reads b.reads).bind fun r1 =>
      bif (!r1) then
        some (false)
      else
        some (true)
noncomputable def eqTapeFS : Fsp := { fid := 30, ps := [⟨true, .base .tape⟩, ⟨true, .base .tape⟩], rs := [⟨false, .base .bool⟩], ex := true, fn := fun x => eqTape x.1 x.2 }
noncomputable def eqTapeS (a : List GTape) (b : List GTape) : Option (Bool) :=
  bif ((a.length : Int) != (b.length : Int)) then
    some (false)
  else
  loopD (fun (x1 : (List GTape) × (List GTape) × Int) =>
    bif (decide (x1.2.2 < (x1.1.length : Int))) then
      (idx x1.1 x1.2.2).bind fun e2 =>
      (idx x1.2.1 x1.2.2).bind fun e3 =>
      (eqTape e2 e3).bind fun r4 =>
      bif (!r4) then
        some (.inr (false))
      else
        some (.inl (x1.1, x1.2.1, w64 (x1.2.2 + 1)))
    else
      some (.inr (true))
  ) (a, b, 0)
noncomputable def eqTapeSFS : Fsp := { fid := 10, ps := [⟨false, .list (.base .tape)⟩, ⟨false, .list (.base .tape)⟩], rs := [⟨false, .base .bool⟩], ex := true, fn := fun x => eqTapeS x.1 x.2 }
noncomputable def eqCell (a : GCell) (b : GCell) : Option (Bool) :=
  bif (a.id != b.id) then
    some (false)
  else
  bif (a.version != b.version) then
    some (false)
  else
  bif (a.kind != b.kind) then
    some (false)
  else
    bif (!(a.name == b.name)) then
      some (false)
    else
      bif (!(a.code == b.code)) then
        some (false)
      else
        bif (a.n != b.n) then
          some (false)
        else
          some (true)
noncomputable def eqCellFS : Fsp := { fid := 50, ps := [⟨true, .base .cell⟩, ⟨true, .base .cell⟩], rs := [⟨false, .base .bool⟩], ex := true, fn := fun x => eqCell x.1 x.2 }
noncomputable def eqCellS (a : List GCell) (b : List GCell) : Option (Bool) :=
  bif ((a.length : Int) != (b.length : Int)) then
    some (false)
  else
  loopD (fun (x1 : (List GCell) × (List GCell) × Int) =>
    bif (decide (x1.2.2 < (x1.1.length : Int))) then
      (idx x1.1 x1.2.2).bind fun e2 =>
      (idx x1.2.1 x1.2.2).bind fun e3 =>
      (eqCell e2 e3).bind fun r4 =>
      bif (!r4) then
        some (.inr (false))
      else
        some (.inl (x1.1, x1.2.1, w64 (x1.2.2 + 1)))
    else
      some (.inr (true))
  ) (a, b, 0)
noncomputable def eqCellSFS : Fsp := { fid := 31, ps := [⟨false, .list (.base .cell)⟩, ⟨false, .list (.base .cell)⟩], rs := [⟨false, .base .bool⟩], ex := true, fn := fun x => eqCellS x.1 x.2 }
noncomputable def eqNotebook (a : GNotebook) (b : GNotebook) : Option (Bool) :=
  (eqCellS a.cells b.cells).bind fun r1 =>
  bif (!r1) then
    some (false)
  else
    some (true)
noncomputable def eqNotebookFS : Fsp := { fid := 11, ps := [⟨true, .base .notebook⟩, ⟨true, .base .notebook⟩], rs := [⟨false, .base .bool⟩], ex := true, fn := fun x => eqNotebook x.1 x.2 }
noncomputable def markText (a : Int) : Option (Str) :=
  bif (decide (a ≤ 0)) then
    some ([109, 48])
  else
    loopD (fun (x1 : Int × Str) =>
      bif (decide (x1.1 > 0)) then
        (gd ((bytesOf [w8 (w64 (48 + (x1.1.tmod 10)))]).length + x1.2.length)).bind fun _ =>
        some (.inl (w64 (x1.1.tdiv 10), (bytesOf [w8 (w64 (48 + (x1.1.tmod 10)))]) ++ x1.2))
      else
        (
          (gd ([109].length + x1.2.length)).bind fun _ =>
          some ([109] ++ x1.2)
        ).bind fun r => some (.inr r)
    ) (a, [])
noncomputable def markTextFS : Fsp := { fid := 51, ps := [⟨false, .base .int⟩], rs := [⟨false, .base .str⟩], ex := true, fn := fun x => markText x }
noncomputable def markStringS (a : List Str) (b : Int) : Option (List Str × Int) :=
  loopD (fun (x : List Str × Int × Int) =>
    bif (decide (x.2.1 < (x.1.length : Int))) then
      (markText x.2.2).bind fun t1 =>
      (idx x.1 x.2.1).bind fun _ =>
      (x.1[x.2.1.toNat]?).bind fun e2 =>
      (some (x.1.set x.2.1.toNat t1)).bind fun z3 =>
      some (.inl (z3, w64 (x.2.1 + 1), w64 (x.2.2 + 1)))
    else
      some (.inr (x.1, x.2.2))
  ) (a, 0, b)
noncomputable def markStringSMS : Msp := { fid := 53, sh := ⟨false, .list (.base .str)⟩, fn := fun x n => markStringS x n }
noncomputable def markIntS (a : List Int) (b : Int) : Option (List Int × Int) :=
  loopD (fun (x : List Int × Int × Int) =>
    bif (decide (x.2.1 < (x.1.length : Int))) then
      (idx x.1 x.2.1).bind fun _ =>
      (x.1[x.2.1.toNat]?).bind fun e1 =>
      (some (x.1.set x.2.1.toNat x.2.2)).bind fun z2 =>
      some (.inl (z2, w64 (x.2.1 + 1), w64 (x.2.2 + 1)))
    else
      some (.inr (x.1, x.2.2))
  ) (a, 0, b)
noncomputable def markIntSMS : Msp := { fid := 65, sh := ⟨false, .list (.base .int)⟩, fn := fun x n => markIntS x n }
noncomputable def markOriginS (a : List GOrigin) (b : Int) : Option (List GOrigin × Int) :=
  loopD (fun (x : List GOrigin × Int × Int) =>
    bif (decide (x.2.1 < (x.1.length : Int))) then
      (idx x.1 x.2.1).bind fun _ =>
      (x.1[x.2.1.toNat]?).bind fun e1 =>
      (some (x.1.set x.2.1.toNat (GOrigin.mk x.2.2 e1.row))).bind fun z2 =>
      (idx z2 x.2.1).bind fun _ =>
      (z2[x.2.1.toNat]?).bind fun e3 =>
      (some (z2.set x.2.1.toNat (GOrigin.mk e3.cell (w64 (x.2.2 + 1))))).bind fun z4 =>
      some (.inl (z4, w64 (x.2.1 + 1), w64 ((w64 (x.2.2 + 1)) + 1)))
    else
      some (.inr (x.1, x.2.2))
  ) (a, 0, b)
noncomputable def markOriginSMS : Msp := { fid := 66, sh := ⟨false, .list (.base .origin)⟩, fn := fun x n => markOriginS x n }
noncomputable def markRowS (a : List GRow) (b : Int) : Option (List GRow × Int) :=
  loopD (fun (x : List GRow × Int × Int) =>
    bif (decide (x.2.1 < (x.1.length : Int))) then
      (idx x.1 x.2.1).bind fun _ =>
      (x.1[x.2.1.toNat]?).bind fun e1 =>
      (x.1[x.2.1.toNat]?).bind fun e2 =>
      (markIntS e2.cells x.2.2).bind fun r3 =>
      (some (x.1.set x.2.1.toNat (GRow.mk r3.1 e2.orig))).bind fun z4 =>
      (idx z4 x.2.1).bind fun _ =>
      (z4[x.2.1.toNat]?).bind fun e5 =>
      (z4[x.2.1.toNat]?).bind fun e6 =>
      (markOriginS e6.orig r3.2).bind fun r7 =>
      (some (z4.set x.2.1.toNat (GRow.mk e6.cells r7.1))).bind fun z8 =>
      some (.inl (z8, w64 (x.2.1 + 1), r7.2))
    else
      some (.inr (x.1, x.2.2))
  ) (a, 0, b)
noncomputable def markRowSMS : Msp := { fid := 54, sh := ⟨false, .list (.base .row)⟩, fn := fun x n => markRowS x n }
noncomputable def markValueSB (rmarkValueS : (List GVal) → Int → Option (List GVal × Int)) (a : List GVal) (b : Int) : Option (List GVal × Int) :=
  loopD (fun (x : List GVal × Int × Int) =>
    bif (decide (x.2.1 < (x.1.length : Int))) then
      (idx x.1 x.2.1).bind fun _ =>
      (x.1[x.2.1.toNat]?).bind fun e1 =>
      (some (x.1.set x.2.1.toNat (GVal.mk x.2.2 e1.n e1.step e1.text e1.list e1.columns e1.rows))).bind fun z2 =>
      (idx z2 x.2.1).bind fun _ =>
      (z2[x.2.1.toNat]?).bind fun e3 =>
      (some (z2.set x.2.1.toNat (GVal.mk e3.kind (w64 (x.2.2 + 1)) e3.step e3.text e3.list e3.columns e3.rows))).bind fun z4 =>
      (idx z4 x.2.1).bind fun _ =>
      (z4[x.2.1.toNat]?).bind fun e5 =>
      (some (z4.set x.2.1.toNat (GVal.mk e5.kind e5.n (w64 ((w64 (x.2.2 + 1)) + 1)) e5.text e5.list e5.columns e5.rows))).bind fun z6 =>
      (markText (w64 ((w64 ((w64 (x.2.2 + 1)) + 1)) + 1))).bind fun t7 =>
      (idx z6 x.2.1).bind fun _ =>
      (z6[x.2.1.toNat]?).bind fun e8 =>
      (some (z6.set x.2.1.toNat (GVal.mk e8.kind e8.n e8.step t7 e8.list e8.columns e8.rows))).bind fun z9 =>
      (idx z9 x.2.1).bind fun _ =>
      (z9[x.2.1.toNat]?).bind fun e10 =>
      (z9[x.2.1.toNat]?).bind fun e11 =>
      (rmarkValueS e11.list (w64 ((w64 ((w64 ((w64 (x.2.2 + 1)) + 1)) + 1)) + 1))).bind fun r12 =>
      (some (z9.set x.2.1.toNat (GVal.mk e11.kind e11.n e11.step e11.text r12.1 e11.columns e11.rows))).bind fun z13 =>
      (idx z13 x.2.1).bind fun _ =>
      (z13[x.2.1.toNat]?).bind fun e14 =>
      (z13[x.2.1.toNat]?).bind fun e15 =>
      (markStringS e15.columns r12.2).bind fun r16 =>
      (some (z13.set x.2.1.toNat (GVal.mk e15.kind e15.n e15.step e15.text e15.list r16.1 e15.rows))).bind fun z17 =>
      (idx z17 x.2.1).bind fun _ =>
      (z17[x.2.1.toNat]?).bind fun e18 =>
      (z17[x.2.1.toNat]?).bind fun e19 =>
      (markRowS e19.rows r16.2).bind fun r20 =>
      (some (z17.set x.2.1.toNat (GVal.mk e19.kind e19.n e19.step e19.text e19.list e19.columns r20.1))).bind fun z21 =>
      some (.inl (z21, w64 (x.2.1 + 1), r20.2))
    else
      some (.inr (x.1, x.2.2))
  ) (a, 0, b)
noncomputable def markValueSG : Nat → (List GVal) → Int → Option (List GVal × Int)
  | 0 => fun _ _ => none
  | n + 1 => markValueSB (markValueSG n)
noncomputable def markValueS (a : List GVal) (b : Int) : Option (List GVal × Int) := markValueSG (siz a + 1) a b
noncomputable def markValueSMSN (k : Nat) : Msp := { fid := 52, sh := ⟨false, .list (.base .val)⟩, fn := fun x n => markValueSG k x n }
noncomputable def markValueSMS : Msp := { fid := 52, sh := ⟨false, .list (.base .val)⟩, fn := fun x n => markValueS x n }
noncomputable def markReadS (a : List GRead) (b : Int) : Option (List GRead × Int) :=
  loopD (fun (x : List GRead × Int × Int) =>
    bif (decide (x.2.1 < (x.1.length : Int))) then
      (idx x.1 x.2.1).bind fun _ =>
      (x.1[x.2.1.toNat]?).bind fun e1 =>
      (some (x.1.set x.2.1.toNat (GRead.mk x.2.2 e1.n e1.time e1.text (reVal e1.result)))).bind fun z2 =>
      (idx z2 x.2.1).bind fun _ =>
      (z2[x.2.1.toNat]?).bind fun e3 =>
      (some (z2.set x.2.1.toNat (GRead.mk e3.kind (w64 (x.2.2 + 1)) e3.time e3.text (reVal e3.result)))).bind fun z4 =>
      (idx z4 x.2.1).bind fun _ =>
      (z4[x.2.1.toNat]?).bind fun e5 =>
      (some (z4.set x.2.1.toNat (GRead.mk e5.kind e5.n (w64 ((w64 (x.2.2 + 1)) + 1)) e5.text (reVal e5.result)))).bind fun z6 =>
      (markText (w64 ((w64 ((w64 (x.2.2 + 1)) + 1)) + 1))).bind fun t7 =>
      (idx z6 x.2.1).bind fun _ =>
      (z6[x.2.1.toNat]?).bind fun e8 =>
      (some (z6.set x.2.1.toNat (GRead.mk e8.kind e8.n e8.time t7 (reVal e8.result)))).bind fun z9 =>
      (idx z9 x.2.1).bind fun _ =>
      (z9[x.2.1.toNat]?).bind fun e10 =>
      (some (z9.set x.2.1.toNat (GRead.mk e10.kind e10.n e10.time e10.text (GVal.mk (w64 ((w64 ((w64 ((w64 (x.2.2 + 1)) + 1)) + 1)) + 1)) e10.result.n e10.result.step e10.result.text e10.result.list e10.result.columns e10.result.rows)))).bind fun z11 =>
      (idx z11 x.2.1).bind fun _ =>
      (z11[x.2.1.toNat]?).bind fun e12 =>
      (some (z11.set x.2.1.toNat (GRead.mk e12.kind e12.n e12.time e12.text (GVal.mk e12.result.kind (w64 ((w64 ((w64 ((w64 ((w64 (x.2.2 + 1)) + 1)) + 1)) + 1)) + 1)) e12.result.step e12.result.text e12.result.list e12.result.columns e12.result.rows)))).bind fun z13 =>
      (idx z13 x.2.1).bind fun _ =>
      (z13[x.2.1.toNat]?).bind fun e14 =>
      (some (z13.set x.2.1.toNat (GRead.mk e14.kind e14.n e14.time e14.text (GVal.mk e14.result.kind e14.result.n (w64 ((w64 ((w64 ((w64 ((w64 ((w64 (x.2.2 + 1)) + 1)) + 1)) + 1)) + 1)) + 1)) e14.result.text e14.result.list e14.result.columns e14.result.rows)))).bind fun z15 =>
      (markText (w64 ((w64 ((w64 ((w64 ((w64 ((w64 ((w64 (x.2.2 + 1)) + 1)) + 1)) + 1)) + 1)) + 1)) + 1))).bind fun t16 =>
      (idx z15 x.2.1).bind fun _ =>
      (z15[x.2.1.toNat]?).bind fun e17 =>
      (some (z15.set x.2.1.toNat (GRead.mk e17.kind e17.n e17.time e17.text (GVal.mk e17.result.kind e17.result.n e17.result.step t16 e17.result.list e17.result.columns e17.result.rows)))).bind fun z18 =>
      (idx z18 x.2.1).bind fun _ =>
      (z18[x.2.1.toNat]?).bind fun e19 =>
      (z18[x.2.1.toNat]?).bind fun e20 =>
      (markValueS e20.result.list (w64 ((w64 ((w64 ((w64 ((w64 ((w64 ((w64 ((w64 (x.2.2 + 1)) + 1)) + 1)) + 1)) + 1)) + 1)) + 1)) + 1))).bind fun r21 =>
      (some (z18.set x.2.1.toNat (GRead.mk e20.kind e20.n e20.time e20.text (GVal.mk e20.result.kind e20.result.n e20.result.step e20.result.text r21.1 e20.result.columns e20.result.rows)))).bind fun z22 =>
      (idx z22 x.2.1).bind fun _ =>
      (z22[x.2.1.toNat]?).bind fun e23 =>
      (z22[x.2.1.toNat]?).bind fun e24 =>
      (markStringS e24.result.columns r21.2).bind fun r25 =>
      (some (z22.set x.2.1.toNat (GRead.mk e24.kind e24.n e24.time e24.text (GVal.mk e24.result.kind e24.result.n e24.result.step e24.result.text e24.result.list r25.1 e24.result.rows)))).bind fun z26 =>
      (idx z26 x.2.1).bind fun _ =>
      (z26[x.2.1.toNat]?).bind fun e27 =>
      (z26[x.2.1.toNat]?).bind fun e28 =>
      (markRowS e28.result.rows r25.2).bind fun r29 =>
      (some (z26.set x.2.1.toNat (GRead.mk e28.kind e28.n e28.time e28.text (GVal.mk e28.result.kind e28.result.n e28.result.step e28.result.text e28.result.list e28.result.columns r29.1)))).bind fun z30 =>
      some (.inl (z30, w64 (x.2.1 + 1), r29.2))
    else
      some (.inr (x.1, x.2.2))
  ) (a, 0, b)
noncomputable def markReadSMS : Msp := { fid := 32, sh := ⟨false, .list (.base .read)⟩, fn := fun x n => markReadS x n }
noncomputable def markTapeS (a : List GTape) (b : Int) : Option (List GTape × Int) :=
  loopD (fun (x : List GTape × Int × Int) =>
    bif (decide (x.2.1 < (x.1.length : Int))) then
      (idx x.1 x.2.1).bind fun _ =>
      (x.1[x.2.1.toNat]?).bind fun e1 =>
      (some (x.1.set x.2.1.toNat (GTape.mk x.2.2 e1.version e1.reads))).bind fun z2 =>
      (idx z2 x.2.1).bind fun _ =>
      (z2[x.2.1.toNat]?).bind fun e3 =>
      (some (z2.set x.2.1.toNat (GTape.mk e3.cell (w64 (x.2.2 + 1)) e3.reads))).bind fun z4 =>
      (idx z4 x.2.1).bind fun _ =>
      (z4[x.2.1.toNat]?).bind fun e5 =>
      (z4[x.2.1.toNat]?).bind fun e6 =>
      (markReadS e6.reads (w64 ((w64 (x.2.2 + 1)) + 1))).bind fun r7 =>
      (some (z4.set x.2.1.toNat (GTape.mk e6.cell e6.version r7.1))).bind fun z8 =>
      some (.inl (z8, w64 (x.2.1 + 1), r7.2))
    else
      some (.inr (x.1, x.2.2))
  ) (a, 0, b)
noncomputable def markTapeSMS : Msp := { fid := 12, sh := ⟨false, .list (.base .tape)⟩, fn := fun x n => markTapeS x n }
noncomputable def markCellS (a : List GCell) (b : Int) : Option (List GCell × Int) :=
  loopD (fun (x : List GCell × Int × Int) =>
    bif (decide (x.2.1 < (x.1.length : Int))) then
      (idx x.1 x.2.1).bind fun _ =>
      (x.1[x.2.1.toNat]?).bind fun e1 =>
      (some (x.1.set x.2.1.toNat (GCell.mk x.2.2 e1.version e1.kind e1.name e1.code e1.n))).bind fun z2 =>
      (idx z2 x.2.1).bind fun _ =>
      (z2[x.2.1.toNat]?).bind fun e3 =>
      (some (z2.set x.2.1.toNat (GCell.mk e3.id (w64 (x.2.2 + 1)) e3.kind e3.name e3.code e3.n))).bind fun z4 =>
      (idx z4 x.2.1).bind fun _ =>
      (z4[x.2.1.toNat]?).bind fun e5 =>
      (some (z4.set x.2.1.toNat (GCell.mk e5.id e5.version (w64 ((w64 (x.2.2 + 1)) + 1)) e5.name e5.code e5.n))).bind fun z6 =>
      (markText (w64 ((w64 ((w64 (x.2.2 + 1)) + 1)) + 1))).bind fun t7 =>
      (idx z6 x.2.1).bind fun _ =>
      (z6[x.2.1.toNat]?).bind fun e8 =>
      (some (z6.set x.2.1.toNat (GCell.mk e8.id e8.version e8.kind t7 e8.code e8.n))).bind fun z9 =>
      (markText (w64 ((w64 ((w64 ((w64 (x.2.2 + 1)) + 1)) + 1)) + 1))).bind fun t10 =>
      (idx z9 x.2.1).bind fun _ =>
      (z9[x.2.1.toNat]?).bind fun e11 =>
      (some (z9.set x.2.1.toNat (GCell.mk e11.id e11.version e11.kind e11.name t10 e11.n))).bind fun z12 =>
      (idx z12 x.2.1).bind fun _ =>
      (z12[x.2.1.toNat]?).bind fun e13 =>
      (some (z12.set x.2.1.toNat (GCell.mk e13.id e13.version e13.kind e13.name e13.code (w64 ((w64 ((w64 ((w64 ((w64 (x.2.2 + 1)) + 1)) + 1)) + 1)) + 1))))).bind fun z14 =>
      some (.inl (z14, w64 (x.2.1 + 1), w64 ((w64 ((w64 ((w64 ((w64 ((w64 (x.2.2 + 1)) + 1)) + 1)) + 1)) + 1)) + 1)))
    else
      some (.inr (x.1, x.2.2))
  ) (a, 0, b)
noncomputable def markCellSMS : Msp := { fid := 33, sh := ⟨false, .list (.base .cell)⟩, fn := fun x n => markCellS x n }
noncomputable def markNotebook (a : GNotebook) (b : Int) : Option (GNotebook × Int) :=
  (markCellS a.cells b).bind fun r1 =>
  some (GNotebook.mk r1.1, r1.2)
noncomputable def markNotebookMS : Msp := { fid := 13, sh := ⟨true, .base .notebook⟩, fn := fun x n => markNotebook x n }
noncomputable def heldStringS (a : List Str) (b : Int) : Option (Int) :=
  loopD (fun (x1 : (List Str) × Int × Int) =>
    bif (decide (x1.2.2 < (x1.1.length : Int))) then
      (idx x1.1 x1.2.2).bind fun e2 =>
      (markText x1.2.1).bind fun r3 =>
      bif (!(e2 == r3)) then
        some (.inr ((-1)))
      else
        some (.inl (x1.1, w64 (x1.2.1 + 1), w64 (x1.2.2 + 1)))
    else
      some (.inr (x1.2.1))
  ) (a, b, 0)
noncomputable def heldStringSFS : Fsp := { fid := 56, ps := [⟨false, .list (.base .str)⟩, ⟨false, .base .int⟩], rs := [⟨false, .base .int⟩], ex := true, fn := fun x => heldStringS x.1 x.2 }
noncomputable def heldIntS (a : List Int) (b : Int) : Option (Int) :=
  loopD (fun (x1 : (List Int) × Int × Int) =>
    bif (decide (x1.2.2 < (x1.1.length : Int))) then
      (idx x1.1 x1.2.2).bind fun e2 =>
      bif (e2 != x1.2.1) then
        some (.inr ((-1)))
      else
        some (.inl (x1.1, w64 (x1.2.1 + 1), w64 (x1.2.2 + 1)))
    else
      some (.inr (x1.2.1))
  ) (a, b, 0)
noncomputable def heldIntSFS : Fsp := { fid := 67, ps := [⟨false, .list (.base .int)⟩, ⟨false, .base .int⟩], rs := [⟨false, .base .int⟩], ex := true, fn := fun x => heldIntS x.1 x.2 }
noncomputable def heldOriginS (a : List GOrigin) (b : Int) : Option (Int) :=
  loopD (fun (x1 : (List GOrigin) × Int × Int) =>
    bif (decide (x1.2.2 < (x1.1.length : Int))) then
      (idx x1.1 x1.2.2).bind fun e2 =>
      bif (e2.cell != x1.2.1) then
        some (.inr ((-1)))
      else
        (idx x1.1 x1.2.2).bind fun e3 =>
        bif (e3.row != (w64 (x1.2.1 + 1))) then
          some (.inr ((-1)))
        else
          some (.inl (x1.1, w64 ((w64 (x1.2.1 + 1)) + 1), w64 (x1.2.2 + 1)))
    else
      some (.inr (x1.2.1))
  ) (a, b, 0)
noncomputable def heldOriginSFS : Fsp := { fid := 68, ps := [⟨false, .list (.base .origin)⟩, ⟨false, .base .int⟩], rs := [⟨false, .base .int⟩], ex := true, fn := fun x => heldOriginS x.1 x.2 }
noncomputable def heldRowS (a : List GRow) (b : Int) : Option (Int) :=
  loopD (fun (x1 : (List GRow) × Int × Int) =>
    bif (decide (x1.2.2 < (x1.1.length : Int))) then
      (idx x1.1 x1.2.2).bind fun e2 =>
      (heldIntS e2.cells x1.2.1).bind fun r3 =>
      bif (decide (r3 < 0)) then
        some (.inr ((-1)))
      else
        (idx x1.1 x1.2.2).bind fun e4 =>
        (heldOriginS e4.orig r3).bind fun r5 =>
        bif (decide (r5 < 0)) then
          some (.inr ((-1)))
        else
          some (.inl (x1.1, r5, w64 (x1.2.2 + 1)))
    else
      some (.inr (x1.2.1))
  ) (a, b, 0)
noncomputable def heldRowSFS : Fsp := { fid := 57, ps := [⟨false, .list (.base .row)⟩, ⟨false, .base .int⟩], rs := [⟨false, .base .int⟩], ex := true, fn := fun x => heldRowS x.1 x.2 }
noncomputable def heldValueSB (rheldValueS : (List GVal) → Int → Option (Int)) (a : List GVal) (b : Int) : Option (Int) :=
  loopD (fun (x1 : (List GVal) × Int × Int) =>
    bif (decide (x1.2.2 < (x1.1.length : Int))) then
      (idx x1.1 x1.2.2).bind fun e2 =>
      bif (e2.kind != x1.2.1) then
        some (.inr ((-1)))
      else
      (idx x1.1 x1.2.2).bind fun e3 =>
      bif (e3.n != (w64 (x1.2.1 + 1))) then
        some (.inr ((-1)))
      else
      (idx x1.1 x1.2.2).bind fun e4 =>
      bif (e4.step != (w64 ((w64 (x1.2.1 + 1)) + 1))) then
        some (.inr ((-1)))
      else
      (idx x1.1 x1.2.2).bind fun e5 =>
      (markText (w64 ((w64 ((w64 (x1.2.1 + 1)) + 1)) + 1))).bind fun r6 =>
      bif (!(e5.text == r6)) then
        some (.inr ((-1)))
      else
      (idx x1.1 x1.2.2).bind fun e7 =>
      (rheldValueS e7.list (w64 ((w64 ((w64 ((w64 (x1.2.1 + 1)) + 1)) + 1)) + 1))).bind fun r8 =>
      bif (decide (r8 < 0)) then
        some (.inr ((-1)))
      else
      (idx x1.1 x1.2.2).bind fun e9 =>
      (heldStringS e9.columns r8).bind fun r10 =>
      bif (decide (r10 < 0)) then
        some (.inr ((-1)))
      else
        (idx x1.1 x1.2.2).bind fun e11 =>
        (heldRowS e11.rows r10).bind fun r12 =>
        bif (decide (r12 < 0)) then
          some (.inr ((-1)))
        else
          some (.inl (x1.1, r12, w64 (x1.2.2 + 1)))
    else
      some (.inr (x1.2.1))
  ) (a, b, 0)
noncomputable def heldValueSG : Nat → ((List GVal) → Int → Option (Int))
  | 0 => fun _ _ => none
  | n + 1 => heldValueSB (heldValueSG n)
noncomputable def heldValueS (a : List GVal) (b : Int) : Option (Int) := (heldValueSG (siz a + 1)) a b
noncomputable def heldValueSFS : Fsp := { fid := 55, ps := [⟨false, .list (.base .val)⟩, ⟨false, .base .int⟩], rs := [⟨false, .base .int⟩], ex := true, fn := fun x => heldValueS x.1 x.2 }
noncomputable def heldValueSFSN (n : Nat) : Fsp := { fid := 55, ps := [⟨false, .list (.base .val)⟩, ⟨false, .base .int⟩], rs := [⟨false, .base .int⟩], ex := true, fn := fun x => (heldValueSG n) x.1 x.2 }
noncomputable def heldReadS (a : List GRead) (b : Int) : Option (Int) :=
  loopD (fun (x1 : (List GRead) × Int × Int) =>
    bif (decide (x1.2.2 < (x1.1.length : Int))) then
      (idx x1.1 x1.2.2).bind fun e2 =>
      bif (e2.kind != x1.2.1) then
        some (.inr ((-1)))
      else
      (idx x1.1 x1.2.2).bind fun e3 =>
      bif (e3.n != (w64 (x1.2.1 + 1))) then
        some (.inr ((-1)))
      else
      (idx x1.1 x1.2.2).bind fun e4 =>
      bif (e4.time != (w64 ((w64 (x1.2.1 + 1)) + 1))) then
        some (.inr ((-1)))
      else
      (idx x1.1 x1.2.2).bind fun e5 =>
      (markText (w64 ((w64 ((w64 (x1.2.1 + 1)) + 1)) + 1))).bind fun r6 =>
      bif (!(e5.text == r6)) then
        some (.inr ((-1)))
      else
      (idx x1.1 x1.2.2).bind fun e7 =>
      bif (e7.result.kind != (w64 ((w64 ((w64 ((w64 (x1.2.1 + 1)) + 1)) + 1)) + 1))) then
        some (.inr ((-1)))
      else
      (idx x1.1 x1.2.2).bind fun e8 =>
      bif (e8.result.n != (w64 ((w64 ((w64 ((w64 ((w64 (x1.2.1 + 1)) + 1)) + 1)) + 1)) + 1))) then
        some (.inr ((-1)))
      else
      (idx x1.1 x1.2.2).bind fun e9 =>
      bif (e9.result.step != (w64 ((w64 ((w64 ((w64 ((w64 ((w64 (x1.2.1 + 1)) + 1)) + 1)) + 1)) + 1)) + 1))) then
        some (.inr ((-1)))
      else
      (idx x1.1 x1.2.2).bind fun e10 =>
      (markText (w64 ((w64 ((w64 ((w64 ((w64 ((w64 ((w64 (x1.2.1 + 1)) + 1)) + 1)) + 1)) + 1)) + 1)) + 1))).bind fun r11 =>
      bif (!(e10.result.text == r11)) then
        some (.inr ((-1)))
      else
      (idx x1.1 x1.2.2).bind fun e12 =>
      (heldValueS e12.result.list (w64 ((w64 ((w64 ((w64 ((w64 ((w64 ((w64 ((w64 (x1.2.1 + 1)) + 1)) + 1)) + 1)) + 1)) + 1)) + 1)) + 1))).bind fun r13 =>
      bif (decide (r13 < 0)) then
        some (.inr ((-1)))
      else
      (idx x1.1 x1.2.2).bind fun e14 =>
      (heldStringS e14.result.columns r13).bind fun r15 =>
      bif (decide (r15 < 0)) then
        some (.inr ((-1)))
      else
        (idx x1.1 x1.2.2).bind fun e16 =>
        (heldRowS e16.result.rows r15).bind fun r17 =>
        bif (decide (r17 < 0)) then
          some (.inr ((-1)))
        else
          some (.inl (x1.1, r17, w64 (x1.2.2 + 1)))
    else
      some (.inr (x1.2.1))
  ) (a, b, 0)
noncomputable def heldReadSFS : Fsp := { fid := 34, ps := [⟨false, .list (.base .read)⟩, ⟨false, .base .int⟩], rs := [⟨false, .base .int⟩], ex := true, fn := fun x => heldReadS x.1 x.2 }
noncomputable def heldTapeS (a : List GTape) (b : Int) : Option (Int) :=
  loopD (fun (x1 : (List GTape) × Int × Int) =>
    bif (decide (x1.2.2 < (x1.1.length : Int))) then
      (idx x1.1 x1.2.2).bind fun e2 =>
      bif (e2.cell != x1.2.1) then
        some (.inr ((-1)))
      else
      (idx x1.1 x1.2.2).bind fun e3 =>
      bif (e3.version != (w64 (x1.2.1 + 1))) then
        some (.inr ((-1)))
      else
        (idx x1.1 x1.2.2).bind fun e4 =>
        (heldReadS e4.reads (w64 ((w64 (x1.2.1 + 1)) + 1))).bind fun r5 =>
        bif (decide (r5 < 0)) then
          some (.inr ((-1)))
        else
          some (.inl (x1.1, r5, w64 (x1.2.2 + 1)))
    else
      some (.inr (x1.2.1))
  ) (a, b, 0)
noncomputable def heldTapeSFS : Fsp := { fid := 14, ps := [⟨false, .list (.base .tape)⟩, ⟨false, .base .int⟩], rs := [⟨false, .base .int⟩], ex := true, fn := fun x => heldTapeS x.1 x.2 }
noncomputable def FnExactRenameTapes (a : List GTape) (b : GNotebook) (c : GNotebook) : Option (Bool) :=
  (szTapeS a 1048576).bind fun r1 =>
  bif (decide (r1 < 0)) then
    some (true)
  else
  (szNotebook b r1).bind fun r2 =>
  bif (decide (r2 < 0)) then
    some (true)
  else
  (szNotebook c r2).bind fun r3 =>
  bif (decide (r3 < 0)) then
    some (true)
  else
  (toTapeS a).bind fun r4 =>
  (toNotebook b).bind fun r5 =>
  (toNotebook c).bind fun r6 =>
  (sRenameTapes r4 r5 r6).bind fun r7 =>
  (toTapeS a).bind fun r8 =>
  (toNotebook b).bind fun r9 =>
  (toNotebook c).bind fun r10 =>
  (iRenameTapes r8 r9 r10).bind fun r11 =>
  (eqTapeS r11 r7).bind fun r12 =>
  bif (!r12) then
    some (false)
  else
  (toTapeS a).bind fun r13 =>
  (eqTapeS r8 r13).bind fun r14 =>
  bif (!r14) then
    some (false)
  else
  (toNotebook b).bind fun r15 =>
  (eqNotebook r9 r15).bind fun r16 =>
  bif (!r16) then
    some (false)
  else
  (toNotebook c).bind fun r17 =>
  (eqNotebook r10 r17).bind fun r18 =>
  bif (!r18) then
    some (false)
  else
  (markTapeS r8 1).bind fun r19 =>
  (markNotebook r9 r19.2).bind fun r20 =>
  (markNotebook r10 r20.2).bind fun r21 =>
  bif (decide (r21.2 < 0)) then
    some (false)
  else
  (eqTapeS r11 r7).bind fun r22 =>
  bif (!r22) then
    some (false)
  else
  (markTapeS r11 1).bind fun r23 =>
  (heldTapeS r23.1 1).bind fun r24 =>
  bif (decide (r24 < 0)) then
    some (false)
  else
  bif (r24 != r23.2) then
    some (false)
  else
  (toTapeS a).bind fun r25 =>
  (toNotebook b).bind fun r26 =>
  (toNotebook c).bind fun r27 =>
  (iRenameTapes r25 r26 r27).bind fun r28 =>
  (eqTapeS r28 r7).bind fun r29 =>
  bif (!r29) then
    some (false)
  else
    (heldTapeS r23.1 1).bind fun r30 =>
    bif (decide (r30 < 0)) then
      some (false)
    else
      bif (r30 != r23.2) then
        some (false)
      else
        some (true)
noncomputable def FnExactRenameTapesFS : Fsp := { fid := 3, ps := [⟨false, .list (.base .tape)⟩, ⟨true, .base .notebook⟩, ⟨true, .base .notebook⟩], rs := [⟨false, .base .bool⟩], ex := true, fn := fun x => FnExactRenameTapes x.1 x.2.1 x.2.2 }
end Go.Proofs.Ytopcobafmnpmkaa
