/- What the functions compute, by gen.py. -/
import Derived.Test.YtijhfajcbmpndaaGreatTabs
import Derived.Test.YtijhfajcbmpndaaGreatSortD
namespace Go.Proofs.YtijhfajcbmpndaaGreat
open Go.Abs Go.Proofs
set_option linter.unusedVariables false
abbrev siz {α : Type} [SizeOf α] (x : α) : Nat := SizeOf.sizeOf x
abbrev w64 (n : Int) : Int := IntKind.i64.wrap n
abbrev w8 (n : Int) : Int := IntKind.u8.wrap n
noncomputable def szIntS (a : List Int) (b : Int) : Option (Int) :=
  bif (decide ((w64 (b - (a.length : Int))) < 0)) then
    some ((-1))
  else
    some (w64 (b - (a.length : Int)))
noncomputable def szIntSFS : Fsp := { fid := 70, ps := [⟨false, .list (.base .int)⟩, ⟨false, .base .int⟩], rs := [⟨false, .base .int⟩], ex := true, fn := fun x => szIntS x.1 x.2 }
noncomputable def szCell (a : GCell) (b : Int) : Option (Int) :=
  bif (decide ((w64 (b - (a.name.length : Int))) < 0)) then
    some ((-1))
  else
    bif (decide ((w64 ((w64 (b - (a.name.length : Int))) - (a.code.length : Int))) < 0)) then
      some ((-1))
    else
      some (w64 ((w64 (b - (a.name.length : Int))) - (a.code.length : Int)))
noncomputable def szCellFS : Fsp := { fid := 108, ps := [⟨true, .base .cell⟩, ⟨false, .base .int⟩], rs := [⟨false, .base .int⟩], ex := true, fn := fun x => szCell x.1 x.2 }
noncomputable def szEdit (a : GEdit) (b : Int) : Option (Int) :=
  (szCell a.cell b).bind fun r1 =>
  bif (decide (r1 < 0)) then
    some ((-1))
  else
    some (r1)
noncomputable def szEditFS : Fsp := { fid := 71, ps := [⟨true, .base .edit⟩, ⟨false, .base .int⟩], rs := [⟨false, .base .int⟩], ex := true, fn := fun x => szEdit x.1 x.2 }
noncomputable def szStringS (a : List Str) (b : Int) : Option (Int) :=
  bif (decide ((w64 (b - (a.length : Int))) < 0)) then
    some ((-1))
  else
    loopD (fun (x1 : (List Str) × Int × Int) =>
      bif (decide (x1.2.2 < (x1.1.length : Int))) then
        (idx x1.1 x1.2.2).bind fun e2 =>
        bif (decide ((w64 (x1.2.1 - (e2.length : Int))) < 0)) then
          some (.inr ((-1)))
        else
          some (.inl (x1.1, w64 (x1.2.1 - (e2.length : Int)), w64 (x1.2.2 + 1)))
      else
        some (.inr (x1.2.1))
    ) (a, w64 (b - (a.length : Int)), 0)
noncomputable def szStringSFS : Fsp := { fid := 138, ps := [⟨false, .list (.base .str)⟩, ⟨false, .base .int⟩], rs := [⟨false, .base .int⟩], ex := true, fn := fun x => szStringS x.1 x.2 }
noncomputable def szOriginS (a : List GOrigin) (b : Int) : Option (Int) :=
  bif (decide ((w64 (b - (a.length : Int))) < 0)) then
    some ((-1))
  else
    some (w64 (b - (a.length : Int)))
noncomputable def szOriginSFS : Fsp := { fid := 170, ps := [⟨false, .list (.base .origin)⟩, ⟨false, .base .int⟩], rs := [⟨false, .base .int⟩], ex := true, fn := fun x => szOriginS x.1 x.2 }
noncomputable def szRow (a : GRow) (b : Int) : Option (Int) :=
  (szIntS a.cells b).bind fun r1 =>
  bif (decide (r1 < 0)) then
    some ((-1))
  else
    (szOriginS a.orig r1).bind fun r2 =>
    bif (decide (r2 < 0)) then
      some ((-1))
    else
      some (r2)
noncomputable def szRowFS : Fsp := { fid := 159, ps := [⟨true, .base .row⟩, ⟨false, .base .int⟩], rs := [⟨false, .base .int⟩], ex := true, fn := fun x => szRow x.1 x.2 }
noncomputable def szRowS (a : List GRow) (b : Int) : Option (Int) :=
  bif (decide ((w64 (b - (a.length : Int))) < 0)) then
    some ((-1))
  else
  loopD (fun (x1 : (List GRow) × Int × Int) =>
    bif (decide (x1.2.2 < (x1.1.length : Int))) then
      (idx x1.1 x1.2.2).bind fun e2 =>
      (szRow e2 x1.2.1).bind fun r3 =>
      bif (decide (r3 < 0)) then
        some (.inr ((-1)))
      else
        some (.inl (x1.1, r3, w64 (x1.2.2 + 1)))
    else
      some (.inr (x1.2.1))
  ) (a, w64 (b - (a.length : Int)), 0)
noncomputable def szRowSFS : Fsp := { fid := 139, ps := [⟨false, .list (.base .row)⟩, ⟨false, .base .int⟩], rs := [⟨false, .base .int⟩], ex := true, fn := fun x => szRowS x.1 x.2 }
noncomputable def szValueB (rszValue : GVal → Int → Option (Int)) (rszValueS : (List GVal) → Int → Option (Int)) (a : GVal) (b : Int) : Option (Int) :=
  bif (decide ((w64 (b - (a.text.length : Int))) < 0)) then
    some ((-1))
  else
  (rszValueS a.list (w64 (b - (a.text.length : Int)))).bind fun r1 =>
  bif (decide (r1 < 0)) then
    some ((-1))
  else
    (szStringS a.columns r1).bind fun r2 =>
    bif (decide (r2 < 0)) then
      some ((-1))
    else
      (szRowS a.rows r2).bind fun r3 =>
      bif (decide (r3 < 0)) then
        some ((-1))
      else
        some (r3)
noncomputable def szValueSB (rszValue : GVal → Int → Option (Int)) (rszValueS : (List GVal) → Int → Option (Int)) (a : List GVal) (b : Int) : Option (Int) :=
  bif (decide ((w64 (b - (a.length : Int))) < 0)) then
    some ((-1))
  else
  loopD (fun (x1 : (List GVal) × Int × Int) =>
    bif (decide (x1.2.2 < (x1.1.length : Int))) then
      (idx x1.1 x1.2.2).bind fun e2 =>
      (rszValue (reVal e2) x1.2.1).bind fun r3 =>
      bif (decide (r3 < 0)) then
        some (.inr ((-1)))
      else
        some (.inl (x1.1, r3, w64 (x1.2.2 + 1)))
    else
      some (.inr (x1.2.1))
  ) (a, w64 (b - (a.length : Int)), 0)
noncomputable def szValueG : Nat → (GVal → Int → Option (Int)) × ((List GVal) → Int → Option (Int))
  | 0 => (fun _ _ => none, fun _ _ => none)
  | n + 1 => (szValueB (szValueG n).1 (szValueG n).2, szValueSB (szValueG n).1 (szValueG n).2)
noncomputable def szValue (a : GVal) (b : Int) : Option (Int) := (szValueG (siz a + 1)).1 a b
noncomputable def szValueFS : Fsp := { fid := 126, ps := [⟨true, .base .val⟩, ⟨false, .base .int⟩], rs := [⟨false, .base .int⟩], ex := true, fn := fun x => szValue x.1 x.2 }
noncomputable def szValueFSN (n : Nat) : Fsp := { fid := 126, ps := [⟨true, .base .val⟩, ⟨false, .base .int⟩], rs := [⟨false, .base .int⟩], ex := true, fn := fun x => (szValueG n).1 x.1 x.2 }
noncomputable def szValueS (a : List GVal) (b : Int) : Option (Int) := (szValueG (siz a + 1)).2 a b
noncomputable def szValueSFS : Fsp := { fid := 137, ps := [⟨false, .list (.base .val)⟩, ⟨false, .base .int⟩], rs := [⟨false, .base .int⟩], ex := true, fn := fun x => szValueS x.1 x.2 }
noncomputable def szValueSFSN (n : Nat) : Fsp := { fid := 137, ps := [⟨false, .list (.base .val)⟩, ⟨false, .base .int⟩], rs := [⟨false, .base .int⟩], ex := true, fn := fun x => (szValueG n).2 x.1 x.2 }
noncomputable def szRead (a : GRead) (b : Int) : Option (Int) :=
  bif (decide ((w64 (b - (a.text.length : Int))) < 0)) then
    some ((-1))
  else
    (szValue (reVal a.result) (w64 (b - (a.text.length : Int)))).bind fun r1 =>
    bif (decide (r1 < 0)) then
      some ((-1))
    else
      some (r1)
noncomputable def szReadFS : Fsp := { fid := 109, ps := [⟨true, .base .read⟩, ⟨false, .base .int⟩], rs := [⟨false, .base .int⟩], ex := true, fn := fun x => szRead x.1 x.2 }
noncomputable def szReadS (a : List GRead) (b : Int) : Option (Int) :=
  bif (decide ((w64 (b - (a.length : Int))) < 0)) then
    some ((-1))
  else
  loopD (fun (x1 : (List GRead) × Int × Int) =>
    bif (decide (x1.2.2 < (x1.1.length : Int))) then
      (idx x1.1 x1.2.2).bind fun e2 =>
      (szRead (reRead e2) x1.2.1).bind fun r3 =>
      bif (decide (r3 < 0)) then
        some (.inr ((-1)))
      else
        some (.inl (x1.1, r3, w64 (x1.2.2 + 1)))
    else
      some (.inr (x1.2.1))
  ) (a, w64 (b - (a.length : Int)), 0)
noncomputable def szReadSFS : Fsp := { fid := 72, ps := [⟨false, .list (.base .read)⟩, ⟨false, .base .int⟩], rs := [⟨false, .base .int⟩], ex := true, fn := fun x => szReadS x.1 x.2 }
noncomputable def szOp (a : GOp) (b : Int) : Option (Int) :=
  (szIntS a.seen b).bind fun r1 =>
  bif (decide (r1 < 0)) then
    some ((-1))
  else
  (szEdit a.edit r1).bind fun r2 =>
  bif (decide (r2 < 0)) then
    some ((-1))
  else
  bif (decide ((w64 (r2 - (a.src.length : Int))) < 0)) then
    some ((-1))
  else
    bif (decide ((w64 ((w64 (r2 - (a.src.length : Int))) - (a.dst.length : Int))) < 0)) then
      some ((-1))
    else
      (szReadS a.reads (w64 ((w64 (r2 - (a.src.length : Int))) - (a.dst.length : Int)))).bind fun r3 =>
      bif (decide (r3 < 0)) then
        some ((-1))
      else
        some (r3)
noncomputable def szOpFS : Fsp := { fid := 44, ps := [⟨true, .base .op⟩, ⟨false, .base .int⟩], rs := [⟨false, .base .int⟩], ex := true, fn := fun x => szOp x.1 x.2 }
noncomputable def szOpS (a : List GOp) (b : Int) : Option (Int) :=
  bif (decide ((w64 (b - (a.length : Int))) < 0)) then
    some ((-1))
  else
  loopD (fun (x1 : (List GOp) × Int × Int) =>
    bif (decide (x1.2.2 < (x1.1.length : Int))) then
      (idx x1.1 x1.2.2).bind fun e2 =>
      (szOp e2 x1.2.1).bind fun r3 =>
      bif (decide (r3 < 0)) then
        some (.inr ((-1)))
      else
        some (.inl (x1.1, r3, w64 (x1.2.2 + 1)))
    else
      some (.inr (x1.2.1))
  ) (a, w64 (b - (a.length : Int)), 0)
noncomputable def szOpSFS : Fsp := { fid := 20, ps := [⟨false, .list (.base .op)⟩, ⟨false, .base .int⟩], rs := [⟨false, .base .int⟩], ex := true, fn := fun x => szOpS x.1 x.2 }
noncomputable def szReplica (a : GReplica) (b : Int) : Option (Int) :=
  (szOpS a.ops b).bind fun r1 =>
  bif (decide (r1 < 0)) then
    some ((-1))
  else
    some (r1)
noncomputable def szReplicaFS : Fsp := { fid := 5, ps := [⟨true, .base .replica⟩, ⟨false, .base .int⟩], rs := [⟨false, .base .int⟩], ex := true, fn := fun x => szReplica x.1 x.2 }
noncomputable def sL42Place (a : List GOp) (b : GOp) : Option (Int) :=
  loopD (fun (x1 : (List GOp) × Int × Int × Int × (List Int) × Int × Int × Int × Int × Int × Str × Str × Int × Str × Str × Int × Int × (List GRead) × Int) =>
    bif (decide (x1.2.2.2.2.2.2.2.2.2.2.2.2.2.2.2.2.2.2 < (x1.1.length : Int))) then
      (idx x1.1 x1.2.2.2.2.2.2.2.2.2.2.2.2.2.2.2.2.2.2).bind fun e2 =>
      bif (e2.time == x1.2.1) then
        (idx x1.1 x1.2.2.2.2.2.2.2.2.2.2.2.2.2.2.2.2.2.2).bind fun e3 =>
        bif (e3.by_ == x1.2.2.1) then
          some (.inr (x1.2.2.2.2.2.2.2.2.2.2.2.2.2.2.2.2.2.2))
        else
          some (.inl (x1.1, x1.2.1, x1.2.2.1, x1.2.2.2.1, x1.2.2.2.2.1, x1.2.2.2.2.2.1, x1.2.2.2.2.2.2.1, x1.2.2.2.2.2.2.2.1, x1.2.2.2.2.2.2.2.2.1, x1.2.2.2.2.2.2.2.2.2.1, x1.2.2.2.2.2.2.2.2.2.2.1, x1.2.2.2.2.2.2.2.2.2.2.2.1, x1.2.2.2.2.2.2.2.2.2.2.2.2.1, x1.2.2.2.2.2.2.2.2.2.2.2.2.2.1, x1.2.2.2.2.2.2.2.2.2.2.2.2.2.2.1, x1.2.2.2.2.2.2.2.2.2.2.2.2.2.2.2.1, x1.2.2.2.2.2.2.2.2.2.2.2.2.2.2.2.2.1, x1.2.2.2.2.2.2.2.2.2.2.2.2.2.2.2.2.2.1, w64 (x1.2.2.2.2.2.2.2.2.2.2.2.2.2.2.2.2.2.2 + 1)))
      else
        some (.inl (x1.1, x1.2.1, x1.2.2.1, x1.2.2.2.1, x1.2.2.2.2.1, x1.2.2.2.2.2.1, x1.2.2.2.2.2.2.1, x1.2.2.2.2.2.2.2.1, x1.2.2.2.2.2.2.2.2.1, x1.2.2.2.2.2.2.2.2.2.1, x1.2.2.2.2.2.2.2.2.2.2.1, x1.2.2.2.2.2.2.2.2.2.2.2.1, x1.2.2.2.2.2.2.2.2.2.2.2.2.1, x1.2.2.2.2.2.2.2.2.2.2.2.2.2.1, x1.2.2.2.2.2.2.2.2.2.2.2.2.2.2.1, x1.2.2.2.2.2.2.2.2.2.2.2.2.2.2.2.1, x1.2.2.2.2.2.2.2.2.2.2.2.2.2.2.2.2.1, x1.2.2.2.2.2.2.2.2.2.2.2.2.2.2.2.2.2.1, w64 (x1.2.2.2.2.2.2.2.2.2.2.2.2.2.2.2.2.2.2 + 1)))
    else
      some (.inr ((-1)))
  ) (a, b.time, b.by_, b.kind, b.seen, b.edit.kind, b.edit.pos, b.edit.cell.id, b.edit.cell.version, b.edit.cell.kind, b.edit.cell.name, b.edit.cell.code, b.edit.cell.n, b.src, b.dst, b.cell, b.version, b.reads, 0)
noncomputable def sL42PlaceFS : Fsp := { fid := 36, ps := [⟨false, .list (.base .op)⟩, ⟨true, .base .op⟩], rs := [⟨false, .base .int⟩], ex := true, fn := fun x => sL42Place x.1 x.2 }
noncomputable def sOpBefore (a : GOp) (b : GOp) : Option (Bool) :=
  bif (decide (a.time < b.time)) then
    some (true)
  else
    bif (a.time == b.time) then
      some ((decide (a.by_ < b.by_)))
    else
      some (false)
noncomputable def sOpBeforeFS : Fsp := { fid := 37, ps := [⟨true, .base .op⟩, ⟨true, .base .op⟩], rs := [⟨false, .base .bool⟩], ex := true, fn := fun x => sOpBefore x.1 x.2 }
noncomputable def sL3Row (a : GRow) : Option (GRow) :=
  (gd (0 + a.cells.length)).bind fun _ =>
  (gd (0 + a.orig.length)).bind fun _ =>
  some (GRow.mk ([] ++ a.cells) ([] ++ a.orig))
noncomputable def sL3RowFS : Fsp := { fid := 136, ps := [⟨true, .base .row⟩], rs := [⟨true, .base .row⟩], ex := true, fn := fun x => sL3Row x }
noncomputable def sL3CopyB (rsL3Copy : GVal → Option (GVal)) (a : GVal) : Option (GVal) :=
  (gd (0 + a.columns.length)).bind fun _ =>
  loopD (fun (x1 : Int × Int × Int × Str × (List GVal) × (List Str) × (List GRow) × Int × Int × Int × Str × (List GVal) × (List Str) × (List GRow) × Int × Int × Int × Str × (List GVal) × (List Str) × (List GRow) × Int) =>
    bif (decide (x1.2.2.2.2.2.2.2.2.2.2.2.2.2.2.2.2.2.2.2.2.2 < (x1.2.2.2.2.1.length : Int))) then
      (idx x1.2.2.2.2.1 x1.2.2.2.2.2.2.2.2.2.2.2.2.2.2.2.2.2.2.2.2.2).bind fun e2 =>
      (rsL3Copy (reVal e2)).bind fun r3 =>
      (gd (x1.2.2.2.2.2.2.2.2.2.2.2.2.2.2.2.2.2.2.1.length + [reVal r3].length)).bind fun _ =>
      some (.inl (x1.1, x1.2.1, x1.2.2.1, x1.2.2.2.1, x1.2.2.2.2.1, x1.2.2.2.2.2.1, x1.2.2.2.2.2.2.1, x1.2.2.2.2.2.2.2.1, x1.2.2.2.2.2.2.2.2.1, x1.2.2.2.2.2.2.2.2.2.1, x1.2.2.2.2.2.2.2.2.2.2.1, x1.2.2.2.2.2.2.2.2.2.2.2.1, x1.2.2.2.2.2.2.2.2.2.2.2.2.1, x1.2.2.2.2.2.2.2.2.2.2.2.2.2.1, x1.2.2.2.2.2.2.2.2.2.2.2.2.2.2.1, x1.2.2.2.2.2.2.2.2.2.2.2.2.2.2.2.1, x1.2.2.2.2.2.2.2.2.2.2.2.2.2.2.2.2.1, x1.2.2.2.2.2.2.2.2.2.2.2.2.2.2.2.2.2.1, x1.2.2.2.2.2.2.2.2.2.2.2.2.2.2.2.2.2.2.1 ++ [reVal r3], x1.2.2.2.2.2.2.2.2.2.2.2.2.2.2.2.2.2.2.2.1, x1.2.2.2.2.2.2.2.2.2.2.2.2.2.2.2.2.2.2.2.2.1, w64 (x1.2.2.2.2.2.2.2.2.2.2.2.2.2.2.2.2.2.2.2.2.2 + 1)))
    else
      (
        loopD (fun (x4 : Int × Int × Int × Str × (List GVal) × (List Str) × (List GRow) × Int × Int × Int × Str × (List GVal) × (List Str) × (List GRow) × Int × Int × Int × Str × (List GVal) × (List Str) × (List GRow) × Int) =>
          bif (decide (x4.2.2.2.2.2.2.2.2.2.2.2.2.2.2.2.2.2.2.2.2.2 < (x4.2.2.2.2.2.2.1.length : Int))) then
            (idx x4.2.2.2.2.2.2.1 x4.2.2.2.2.2.2.2.2.2.2.2.2.2.2.2.2.2.2.2.2.2).bind fun e5 =>
            (sL3Row e5).bind fun r6 =>
            (gd (x4.2.2.2.2.2.2.2.2.2.2.2.2.2.2.2.2.2.2.2.2.1.length + [r6].length)).bind fun _ =>
            some (.inl (x4.1, x4.2.1, x4.2.2.1, x4.2.2.2.1, x4.2.2.2.2.1, x4.2.2.2.2.2.1, x4.2.2.2.2.2.2.1, x4.2.2.2.2.2.2.2.1, x4.2.2.2.2.2.2.2.2.1, x4.2.2.2.2.2.2.2.2.2.1, x4.2.2.2.2.2.2.2.2.2.2.1, x4.2.2.2.2.2.2.2.2.2.2.2.1, x4.2.2.2.2.2.2.2.2.2.2.2.2.1, x4.2.2.2.2.2.2.2.2.2.2.2.2.2.1, x4.2.2.2.2.2.2.2.2.2.2.2.2.2.2.1, x4.2.2.2.2.2.2.2.2.2.2.2.2.2.2.2.1, x4.2.2.2.2.2.2.2.2.2.2.2.2.2.2.2.2.1, x4.2.2.2.2.2.2.2.2.2.2.2.2.2.2.2.2.2.1, x4.2.2.2.2.2.2.2.2.2.2.2.2.2.2.2.2.2.2.1, x4.2.2.2.2.2.2.2.2.2.2.2.2.2.2.2.2.2.2.2.1, x4.2.2.2.2.2.2.2.2.2.2.2.2.2.2.2.2.2.2.2.2.1 ++ [r6], w64 (x4.2.2.2.2.2.2.2.2.2.2.2.2.2.2.2.2.2.2.2.2.2 + 1)))
          else
            some (.inr (GVal.mk x4.2.2.2.2.2.2.2.2.2.2.2.2.2.2.1 x4.2.2.2.2.2.2.2.2.2.2.2.2.2.2.2.1 x4.2.2.2.2.2.2.2.2.2.2.2.2.2.2.2.2.1 x4.2.2.2.2.2.2.2.2.2.2.2.2.2.2.2.2.2.1 x4.2.2.2.2.2.2.2.2.2.2.2.2.2.2.2.2.2.2.1 x4.2.2.2.2.2.2.2.2.2.2.2.2.2.2.2.2.2.2.2.1 x4.2.2.2.2.2.2.2.2.2.2.2.2.2.2.2.2.2.2.2.2.1))
        ) (x1.1, x1.2.1, x1.2.2.1, x1.2.2.2.1, x1.2.2.2.2.1, x1.2.2.2.2.2.1, x1.2.2.2.2.2.2.1, x1.2.2.2.2.2.2.2.1, x1.2.2.2.2.2.2.2.2.1, x1.2.2.2.2.2.2.2.2.2.1, x1.2.2.2.2.2.2.2.2.2.2.1, x1.2.2.2.2.2.2.2.2.2.2.2.1, x1.2.2.2.2.2.2.2.2.2.2.2.2.1, x1.2.2.2.2.2.2.2.2.2.2.2.2.2.1, x1.2.2.2.2.2.2.2.2.2.2.2.2.2.2.1, x1.2.2.2.2.2.2.2.2.2.2.2.2.2.2.2.1, x1.2.2.2.2.2.2.2.2.2.2.2.2.2.2.2.2.1, x1.2.2.2.2.2.2.2.2.2.2.2.2.2.2.2.2.2.1, x1.2.2.2.2.2.2.2.2.2.2.2.2.2.2.2.2.2.2.1, x1.2.2.2.2.2.2.2.2.2.2.2.2.2.2.2.2.2.2.2.1, x1.2.2.2.2.2.2.2.2.2.2.2.2.2.2.2.2.2.2.2.2.1, 0)
      ).bind fun r => some (.inr r)
  ) (a.kind, a.n, a.step, a.text, a.list, a.columns, a.rows, 0, 0, 0, [], [], [], [], a.kind, a.n, a.step, a.text, [], [] ++ a.columns, [], 0)
noncomputable def sL3CopyG : Nat → (GVal → Option (GVal))
  | 0 => fun _ => none
  | n + 1 => sL3CopyB (sL3CopyG n)
noncomputable def sL3Copy (a : GVal) : Option (GVal) := (sL3CopyG (siz a + 1)) a
noncomputable def sL3CopyFS : Fsp := { fid := 125, ps := [⟨true, .base .val⟩], rs := [⟨true, .base .val⟩], ex := true, fn := fun x => sL3Copy x }
noncomputable def sL3CopyFSN (n : Nat) : Fsp := { fid := 125, ps := [⟨true, .base .val⟩], rs := [⟨true, .base .val⟩], ex := true, fn := fun x => (sL3CopyG n) x }
noncomputable def sL16Read (a : GRead) : Option (GRead) :=
  (sL3Copy (reVal a.result)).bind fun r1 =>
  some (GRead.mk a.kind a.n a.time a.text (reVal r1))
noncomputable def sL16ReadFS : Fsp := { fid := 106, ps := [⟨true, .base .read⟩], rs := [⟨true, .base .read⟩], ex := true, fn := fun x => sL16Read x }
noncomputable def sL16Reads (a : List GRead) : Option ((List GRead)) :=
  loopD (fun (x1 : (List GRead) × (List GRead) × Int) =>
    bif (decide (x1.2.2 < (x1.1.length : Int))) then
      (idx x1.1 x1.2.2).bind fun e2 =>
      (sL16Read (reRead e2)).bind fun r3 =>
      (gd (x1.2.1.length + [reRead r3].length)).bind fun _ =>
      some (.inl (x1.1, x1.2.1 ++ [reRead r3], w64 (x1.2.2 + 1)))
    else
      some (.inr (x1.2.1))
  ) (a, [], 0)
noncomputable def sL16ReadsFS : Fsp := { fid := 67, ps := [⟨false, .list (.base .read)⟩], rs := [⟨false, .list (.base .read)⟩], ex := true, fn := fun x => sL16Reads x }
noncomputable def sL41Copy (a : GOp) : Option (GOp) :=
  (gd (0 + a.seen.length)).bind fun _ =>
  (sL16Reads a.reads).bind fun r1 =>
  some (GOp.mk a.time a.by_ a.kind ([] ++ a.seen) a.edit a.src a.dst a.cell a.version r1)
noncomputable def sL41CopyFS : Fsp := { fid := 38, ps := [⟨true, .base .op⟩], rs := [⟨true, .base .op⟩], ex := true, fn := fun x => sL41Copy x }
noncomputable def sMergeOps (a : List GOp) (b : List GOp) : Option ((List GOp)) :=
  (gd (0 + a.length)).bind fun _ =>
  (gd (([] ++ a).length + b.length)).bind fun _ =>
  loopD (fun (x1 : (List GOp) × (List GOp) × Int) =>
    bif (decide (x1.2.2 < (x1.2.1.length : Int))) then
      (idx x1.2.1 x1.2.2).bind fun _ =>
      (x1.2.1[x1.2.2.toNat]?).bind fun e3 =>
      (sL42Place x1.1 e3).bind fun r4 =>
      bif (decide (r4 ≥ 0)) then
        some (.inl (x1.1, x1.2.1, w64 (x1.2.2 + 1)))
      else
      loopD (fun (x5 : (List GOp) × (List GOp) × Int × Int) =>
        bif (decide (x5.2.2.2 < (x5.1.length : Int))) then
          (idx x5.1 x5.2.2.2).bind fun _ =>
          (x5.1[x5.2.2.2.toNat]?).bind fun e7 =>
          (idx x5.2.1 x5.2.2.1).bind fun _ =>
          (x5.2.1[x5.2.2.1.toNat]?).bind fun e9 =>
          (sOpBefore e7 e9).bind fun r10 =>
          bif r10 then
            some (.inl (x5.1, x5.2.1, x5.2.2.1, w64 (x5.2.2.2 + 1)))
          else
          (
            (eff.cutL x5.1 none (some x5.2.2.2)).bind fun r11 =>
            (gd (0 + r11.length)).bind fun _ =>
            (idx x5.2.1 x5.2.2.1).bind fun _ =>
            (x5.2.1[x5.2.2.1.toNat]?).bind fun e13 =>
            (sL41Copy e13).bind fun r14 =>
            (gd (([] ++ r11).length + [r14].length)).bind fun _ =>
            (eff.cutL x5.1 (some x5.2.2.2) none).bind fun r15 =>
            (gd ((([] ++ r11) ++ [r14]).length + r15.length)).bind fun _ =>
            some (.inl ((([] ++ r11) ++ [r14]) ++ r15, x5.2.1, w64 (x5.2.2.1 + 1)))
          ).bind fun r => some (.inr r)
        else
        (
          (eff.cutL x5.1 none (some x5.2.2.2)).bind fun r16 =>
          (gd (0 + r16.length)).bind fun _ =>
          (idx x5.2.1 x5.2.2.1).bind fun _ =>
          (x5.2.1[x5.2.2.1.toNat]?).bind fun e18 =>
          (sL41Copy e18).bind fun r19 =>
          (gd (([] ++ r16).length + [r19].length)).bind fun _ =>
          (eff.cutL x5.1 (some x5.2.2.2) none).bind fun r20 =>
          (gd ((([] ++ r16) ++ [r19]).length + r20.length)).bind fun _ =>
          some (.inl ((([] ++ r16) ++ [r19]) ++ r20, x5.2.1, w64 (x5.2.2.1 + 1)))
        ).bind fun r => some (.inr r)
      ) (x1.1, x1.2.1, x1.2.2, 0)
    else
      some (.inr (x1.1))
  ) ([], ([] ++ a) ++ b, 0)
noncomputable def sMergeOpsFS : Fsp := { fid := 16, ps := [⟨false, .list (.base .op)⟩, ⟨false, .list (.base .op)⟩], rs := [⟨false, .list (.base .op)⟩], ex := false, sh := true, fn := fun x => sMergeOps x.1 x.2 }
noncomputable def sL1In (a : Int) (b : Int) (c : Int) : Option (Bool) :=
  bif (decide (a ≥ b)) then
    some ((decide (a ≤ c)))
  else
    some (false)
noncomputable def sL1InFS : Fsp := { fid := 45, ps := [⟨false, .base .int⟩, ⟨false, .base .int⟩, ⟨false, .base .int⟩], rs := [⟨false, .base .bool⟩], ex := true, fn := fun x => sL1In x.1 x.2.1 x.2.2 }
noncomputable def sL41Seen (a : List Int) : Option (Bool) :=
  loopD (fun (x1 : (List Int) × Int) =>
    bif (decide (x1.2 < (x1.1.length : Int))) then
      (idx x1.1 x1.2).bind fun e2 =>
      (sL1In e2 0 60).bind fun r3 =>
      bif (!r3) then
        some (.inr (false))
      else
        some (.inl (x1.1, w64 (x1.2 + 1)))
    else
      some (.inr (((x1.1.length : Int) == 3)))
  ) (a, 0)
noncomputable def sL41SeenFS : Fsp := { fid := 69, ps := [⟨false, .list (.base .int)⟩], rs := [⟨false, .base .bool⟩], ex := true, fn := fun x => sL41Seen x }
noncomputable def sIsValidOp (a : GOp) : Option (Bool) :=
  (sL1In a.time 1 300).bind fun r1 =>
  bif (!r1) then
    some (false)
  else
  (sL1In a.by_ 0 2).bind fun r2 =>
  bif (!r2) then
    some (false)
  else
  (sL41Seen a.seen).bind fun r3 =>
  bif (!r3) then
    some (false)
  else
  (sL1In a.kind 1 3).bind fun r4 =>
  bif (!r4) then
    some (false)
  else
  bif (a.src == []) then
    bif (a.cell == 0) then
      bif (a.version == 0) then
        bif (a.kind == 1) then
          bif (a.dst == []) then
            some (((a.reads.length : Int) == 0))
          else
            some (false)
        else
          bif (a.kind == 2) then
            bif ((a.edit.kind == 0) && ((a.edit.pos == 0) && ((a.edit.cell.id == 0) && ((a.edit.cell.version == 0) && ((a.edit.cell.kind == 0) && ((a.edit.cell.name == []) && ((a.edit.cell.code == []) && (a.edit.cell.n == 0)))))))) then
              some (((a.reads.length : Int) == 0))
            else
              some (false)
          else
            bif ((a.edit.kind == 0) && ((a.edit.pos == 0) && ((a.edit.cell.id == 0) && ((a.edit.cell.version == 0) && ((a.edit.cell.kind == 0) && ((a.edit.cell.name == []) && ((a.edit.cell.code == []) && (a.edit.cell.n == 0)))))))) then
              some ((a.dst == []))
            else
              some (false)
      else
      bif (a.kind == 1) then
        bif (a.dst == []) then
          some (false)
        else
          some (false)
      else
        bif (a.kind == 2) then
          bif ((a.edit.kind == 0) && ((a.edit.pos == 0) && ((a.edit.cell.id == 0) && ((a.edit.cell.version == 0) && ((a.edit.cell.kind == 0) && ((a.edit.cell.name == []) && ((a.edit.cell.code == []) && (a.edit.cell.n == 0)))))))) then
            some (false)
          else
            some (false)
        else
          bif ((a.edit.kind == 0) && ((a.edit.pos == 0) && ((a.edit.cell.id == 0) && ((a.edit.cell.version == 0) && ((a.edit.cell.kind == 0) && ((a.edit.cell.name == []) && ((a.edit.cell.code == []) && (a.edit.cell.n == 0)))))))) then
            some ((a.dst == []))
          else
            some (false)
    else
    bif (a.kind == 1) then
      bif (a.dst == []) then
        some (false)
      else
        some (false)
    else
      bif (a.kind == 2) then
        bif ((a.edit.kind == 0) && ((a.edit.pos == 0) && ((a.edit.cell.id == 0) && ((a.edit.cell.version == 0) && ((a.edit.cell.kind == 0) && ((a.edit.cell.name == []) && ((a.edit.cell.code == []) && (a.edit.cell.n == 0)))))))) then
          some (false)
        else
          some (false)
      else
        bif ((a.edit.kind == 0) && ((a.edit.pos == 0) && ((a.edit.cell.id == 0) && ((a.edit.cell.version == 0) && ((a.edit.cell.kind == 0) && ((a.edit.cell.name == []) && ((a.edit.cell.code == []) && (a.edit.cell.n == 0)))))))) then
          some ((a.dst == []))
        else
          some (false)
  else
  bif (a.cell == 0) then
    bif (a.version == 0) then
      bif (a.kind == 1) then
        some (false)
      else
        bif (a.kind == 2) then
          bif ((a.edit.kind == 0) && ((a.edit.pos == 0) && ((a.edit.cell.id == 0) && ((a.edit.cell.version == 0) && ((a.edit.cell.kind == 0) && ((a.edit.cell.name == []) && ((a.edit.cell.code == []) && (a.edit.cell.n == 0)))))))) then
            some (((a.reads.length : Int) == 0))
          else
            some (false)
        else
          bif ((a.edit.kind == 0) && ((a.edit.pos == 0) && ((a.edit.cell.id == 0) && ((a.edit.cell.version == 0) && ((a.edit.cell.kind == 0) && ((a.edit.cell.name == []) && ((a.edit.cell.code == []) && (a.edit.cell.n == 0)))))))) then
            some (false)
          else
            some (false)
    else
    bif (a.kind == 1) then
      some (false)
    else
      bif (a.kind == 2) then
        bif ((a.edit.kind == 0) && ((a.edit.pos == 0) && ((a.edit.cell.id == 0) && ((a.edit.cell.version == 0) && ((a.edit.cell.kind == 0) && ((a.edit.cell.name == []) && ((a.edit.cell.code == []) && (a.edit.cell.n == 0)))))))) then
          some (false)
        else
          some (false)
      else
        bif ((a.edit.kind == 0) && ((a.edit.pos == 0) && ((a.edit.cell.id == 0) && ((a.edit.cell.version == 0) && ((a.edit.cell.kind == 0) && ((a.edit.cell.name == []) && ((a.edit.cell.code == []) && (a.edit.cell.n == 0)))))))) then
          some (false)
        else
          some (false)
  else
  bif (a.kind == 1) then
    some (false)
  else
    bif (a.kind == 2) then
      bif ((a.edit.kind == 0) && ((a.edit.pos == 0) && ((a.edit.cell.id == 0) && ((a.edit.cell.version == 0) && ((a.edit.cell.kind == 0) && ((a.edit.cell.name == []) && ((a.edit.cell.code == []) && (a.edit.cell.n == 0)))))))) then
        some (false)
      else
        some (false)
    else
      bif ((a.edit.kind == 0) && ((a.edit.pos == 0) && ((a.edit.cell.id == 0) && ((a.edit.cell.version == 0) && ((a.edit.cell.kind == 0) && ((a.edit.cell.name == []) && ((a.edit.cell.code == []) && (a.edit.cell.n == 0)))))))) then
        some (false)
      else
        some (false)
noncomputable def sIsValidOpFS : Fsp := { fid := 43, ps := [⟨true, .base .op⟩], rs := [⟨false, .base .bool⟩], ex := true, fn := fun x => sIsValidOp x }
noncomputable def sIsValidLog (a : List GOp) : Option (Bool) :=
  loopD (fun (x1 : (List GOp) × Int) =>
    bif (decide (x1.2 < (x1.1.length : Int))) then
      (idx x1.1 x1.2).bind fun e2 =>
      (sIsValidOp e2).bind fun r3 =>
      bif (!r3) then
        some (.inr (false))
      else
      bif (decide (x1.2 > 0)) then
        (idx x1.1 (w64 (x1.2 - 1))).bind fun e4 =>
        (idx x1.1 x1.2).bind fun e5 =>
        (sOpBefore e4 e5).bind fun r6 =>
        bif (!r6) then
          some (.inr (false))
        else
          some (.inl (x1.1, w64 (x1.2 + 1)))
      else
        some (.inl (x1.1, w64 (x1.2 + 1)))
    else
      some (.inr ((decide ((x1.1.length : Int) ≤ 60))))
  ) (a, 0)
noncomputable def sIsValidLogFS : Fsp := { fid := 19, ps := [⟨false, .list (.base .op)⟩], rs := [⟨false, .base .bool⟩], ex := true, fn := fun x => sIsValidLog x }
noncomputable def sIsValidReplica (a : GReplica) : Option (Bool) :=
  (sL1In a.id 0 2).bind fun r1 =>
  bif r1 then
    (sIsValidLog a.ops).bind fun r2 =>
    some (r2)
  else
    some (false)
noncomputable def sIsValidReplicaFS : Fsp := { fid := 21, ps := [⟨true, .base .replica⟩], rs := [⟨false, .base .bool⟩], ex := true, fn := fun x => sIsValidReplica x }
noncomputable def sL41Ops (a : List GOp) : Option ((List GOp)) :=
  loopD (fun (x1 : (List GOp) × (List GOp) × Int) =>
    bif (decide (x1.2.2 < (x1.1.length : Int))) then
      (idx x1.1 x1.2.2).bind fun e2 =>
      (sL41Copy e2).bind fun r3 =>
      (gd (x1.2.1.length + [r3].length)).bind fun _ =>
      some (.inl (x1.1, x1.2.1 ++ [r3], w64 (x1.2.2 + 1)))
    else
      some (.inr (x1.2.1))
  ) (a, [], 0)
noncomputable def sL41OpsFS : Fsp := { fid := 46, ps := [⟨false, .list (.base .op)⟩], rs := [⟨false, .list (.base .op)⟩], ex := true, fn := fun x => sL41Ops x }
noncomputable def sL43Copy (a : GReplica) : Option (GReplica) :=
  (sL41Ops a.ops).bind fun r1 =>
  some (GReplica.mk a.id r1)
noncomputable def sL43CopyFS : Fsp := { fid := 22, ps := [⟨true, .base .replica⟩], rs := [⟨true, .base .replica⟩], ex := true, fn := fun x => sL43Copy x }
noncomputable def sPull (a : GReplica) (b : GReplica) : Option (GReplica × Bool) :=
  (sMergeOps a.ops b.ops).bind fun r1 =>
  (sIsValidReplica a).bind fun r2 =>
  bif (!r2) then
    (sL43Copy a).bind fun r3 =>
    some (r3, false)
  else
  (sIsValidReplica b).bind fun r4 =>
  bif (!r4) then
    (sL43Copy a).bind fun r5 =>
    some (r5, false)
  else
    (sIsValidReplica (GReplica.mk a.id r1)).bind fun r6 =>
    bif (!r6) then
      (sL43Copy a).bind fun r7 =>
      some (r7, false)
    else
      some (GReplica.mk a.id r1, true)
noncomputable def sPullFS : Fsp := { fid := 6, ps := [⟨true, .base .replica⟩, ⟨true, .base .replica⟩], rs := [⟨true, .base .replica⟩, ⟨false, .base .bool⟩], ex := false, sh := true, fn := fun x => sPull x.1 x.2 }
noncomputable def toIntS (a : List Int) : Option ((List Int)) :=
  (mk (a.length : Int)).bind fun m1 =>
  loopD (fun (x2 : (List Int) × (List Int) × Int) =>
    bif (decide (x2.2.2 < (x2.1.length : Int))) then
      (idx x2.1 x2.2.2).bind fun e3 =>
      (idx x2.2.1 x2.2.2).bind fun _ =>
      (x2.2.1[x2.2.2.toNat]?).bind fun e5 =>
      some (.inl (x2.1, x2.2.1.set x2.2.2.toNat e3, w64 (x2.2.2 + 1)))
    else
      some (.inr (x2.2.1))
  ) (a, List.replicate m1 0, 0)
noncomputable def toIntSFS : Fsp := { fid := 73, ps := [⟨false, .list (.base .int)⟩], rs := [⟨false, .list (.base .int)⟩], ex := true, fn := fun x => toIntS x }
noncomputable def toCell (a : GCell) : Option (GCell) :=
  some (a)
noncomputable def toCellFS : Fsp := { fid := 110, ps := [⟨true, .base .cell⟩], rs := [⟨true, .base .cell⟩], ex := true, fn := fun x => toCell x }
noncomputable def toEdit (a : GEdit) : Option (GEdit) :=
  (toCell a.cell).bind fun r1 =>
  some (GEdit.mk a.kind a.pos r1)
noncomputable def toEditFS : Fsp := { fid := 74, ps := [⟨true, .base .edit⟩], rs := [⟨true, .base .edit⟩], ex := true, fn := fun x => toEdit x }
noncomputable def toStringS (a : List Str) : Option ((List Str)) :=
  (mk (a.length : Int)).bind fun m1 =>
  loopD (fun (x2 : (List Str) × (List Str) × Int) =>
    bif (decide (x2.2.2 < (x2.1.length : Int))) then
      (idx x2.1 x2.2.2).bind fun e3 =>
      (idx x2.2.1 x2.2.2).bind fun _ =>
      (x2.2.1[x2.2.2.toNat]?).bind fun e5 =>
      some (.inl (x2.1, x2.2.1.set x2.2.2.toNat e3, w64 (x2.2.2 + 1)))
    else
      some (.inr (x2.2.1))
  ) (a, List.replicate m1 [], 0)
noncomputable def toStringSFS : Fsp := { fid := 141, ps := [⟨false, .list (.base .str)⟩], rs := [⟨false, .list (.base .str)⟩], ex := true, fn := fun x => toStringS x }
noncomputable def toOrigin (a : GOrigin) : Option (GOrigin) :=
  some (a)
noncomputable def toOriginFS : Fsp := { fid := 174, ps := [⟨true, .base .origin⟩], rs := [⟨true, .base .origin⟩], ex := true, fn := fun x => toOrigin x }
noncomputable def toOriginS (a : List GOrigin) : Option ((List GOrigin)) :=
  (mk (a.length : Int)).bind fun m1 =>
  loopD (fun (x2 : (List GOrigin) × (List GOrigin) × Int) =>
    bif (decide (x2.2.2 < (x2.1.length : Int))) then
      (idx x2.1 x2.2.2).bind fun e3 =>
      (toOrigin e3).bind fun r4 =>
      (idx x2.2.1 x2.2.2).bind fun _ =>
      (x2.2.1[x2.2.2.toNat]?).bind fun e6 =>
      some (.inl (x2.1, x2.2.1.set x2.2.2.toNat r4, w64 (x2.2.2 + 1)))
    else
      some (.inr (x2.2.1))
  ) (a, List.replicate m1 (GOrigin.mk 0 0), 0)
noncomputable def toOriginSFS : Fsp := { fid := 171, ps := [⟨false, .list (.base .origin)⟩], rs := [⟨false, .list (.base .origin)⟩], ex := true, fn := fun x => toOriginS x }
noncomputable def toRow (a : GRow) : Option (GRow) :=
  (toIntS a.cells).bind fun r1 =>
  (toOriginS a.orig).bind fun r2 =>
  some (GRow.mk r1 r2)
noncomputable def toRowFS : Fsp := { fid := 160, ps := [⟨true, .base .row⟩], rs := [⟨true, .base .row⟩], ex := true, fn := fun x => toRow x }
noncomputable def toRowS (a : List GRow) : Option ((List GRow)) :=
  (mk (a.length : Int)).bind fun m1 =>
  loopD (fun (x2 : (List GRow) × (List GRow) × Int) =>
    bif (decide (x2.2.2 < (x2.1.length : Int))) then
      (idx x2.1 x2.2.2).bind fun e3 =>
      (toRow e3).bind fun r4 =>
      (idx x2.2.1 x2.2.2).bind fun _ =>
      (x2.2.1[x2.2.2.toNat]?).bind fun e6 =>
      some (.inl (x2.1, x2.2.1.set x2.2.2.toNat r4, w64 (x2.2.2 + 1)))
    else
      some (.inr (x2.2.1))
  ) (a, List.replicate m1 (GRow.mk [] []), 0)
noncomputable def toRowSFS : Fsp := { fid := 142, ps := [⟨false, .list (.base .row)⟩], rs := [⟨false, .list (.base .row)⟩], ex := true, fn := fun x => toRowS x }
noncomputable def toValueB (rtoValue : GVal → Option (GVal)) (rtoValueS : (List GVal) → Option ((List GVal))) (a : GVal) : Option (GVal) :=
  (rtoValueS a.list).bind fun r1 =>
  (toStringS a.columns).bind fun r2 =>
  (toRowS a.rows).bind fun r3 =>
  some (GVal.mk a.kind a.n a.step a.text r1 r2 r3)
noncomputable def toValueSB (rtoValue : GVal → Option (GVal)) (rtoValueS : (List GVal) → Option ((List GVal))) (a : List GVal) : Option ((List GVal)) :=
  (mk (a.length : Int)).bind fun m1 =>
  loopD (fun (x2 : (List GVal) × (List GVal) × Int) =>
    bif (decide (x2.2.2 < (x2.1.length : Int))) then
      (idx x2.1 x2.2.2).bind fun e3 =>
      (rtoValue (reVal e3)).bind fun r4 =>
      (idx x2.2.1 x2.2.2).bind fun _ =>
      (x2.2.1[x2.2.2.toNat]?).bind fun e6 =>
      some (.inl (x2.1, x2.2.1.set x2.2.2.toNat (reVal r4), w64 (x2.2.2 + 1)))
    else
      some (.inr (x2.2.1))
  ) (a, List.replicate m1 (GVal.mk 0 0 0 [] [] [] []), 0)
noncomputable def toValueG : Nat → (GVal → Option (GVal)) × ((List GVal) → Option ((List GVal)))
  | 0 => (fun _ => none, fun _ => none)
  | n + 1 => (toValueB (toValueG n).1 (toValueG n).2, toValueSB (toValueG n).1 (toValueG n).2)
noncomputable def toValue (a : GVal) : Option (GVal) := (toValueG (siz a + 1)).1 a
noncomputable def toValueFS : Fsp := { fid := 127, ps := [⟨true, .base .val⟩], rs := [⟨true, .base .val⟩], ex := true, fn := fun x => toValue x }
noncomputable def toValueFSN (n : Nat) : Fsp := { fid := 127, ps := [⟨true, .base .val⟩], rs := [⟨true, .base .val⟩], ex := true, fn := fun x => (toValueG n).1 x }
noncomputable def toValueS (a : List GVal) : Option ((List GVal)) := (toValueG (siz a + 1)).2 a
noncomputable def toValueSFS : Fsp := { fid := 140, ps := [⟨false, .list (.base .val)⟩], rs := [⟨false, .list (.base .val)⟩], ex := true, fn := fun x => toValueS x }
noncomputable def toValueSFSN (n : Nat) : Fsp := { fid := 140, ps := [⟨false, .list (.base .val)⟩], rs := [⟨false, .list (.base .val)⟩], ex := true, fn := fun x => (toValueG n).2 x }
noncomputable def toRead (a : GRead) : Option (GRead) :=
  (toValue (reVal a.result)).bind fun r1 =>
  some (GRead.mk a.kind a.n a.time a.text (reVal r1))
noncomputable def toReadFS : Fsp := { fid := 111, ps := [⟨true, .base .read⟩], rs := [⟨true, .base .read⟩], ex := true, fn := fun x => toRead x }
noncomputable def toReadS (a : List GRead) : Option ((List GRead)) :=
  (mk (a.length : Int)).bind fun m1 =>
  loopD (fun (x2 : (List GRead) × (List GRead) × Int) =>
    bif (decide (x2.2.2 < (x2.1.length : Int))) then
      (idx x2.1 x2.2.2).bind fun e3 =>
      (toRead (reRead e3)).bind fun r4 =>
      (idx x2.2.1 x2.2.2).bind fun _ =>
      (x2.2.1[x2.2.2.toNat]?).bind fun e6 =>
      some (.inl (x2.1, x2.2.1.set x2.2.2.toNat (reRead r4), w64 (x2.2.2 + 1)))
    else
      some (.inr (x2.2.1))
  ) (a, List.replicate m1 (GRead.mk 0 0 0 [] (GVal.mk 0 0 0 [] [] [] [])), 0)
noncomputable def toReadSFS : Fsp := { fid := 75, ps := [⟨false, .list (.base .read)⟩], rs := [⟨false, .list (.base .read)⟩], ex := true, fn := fun x => toReadS x }
noncomputable def toOp (a : GOp) : Option (GOp) :=
  (toIntS a.seen).bind fun r1 =>
  (toEdit a.edit).bind fun r2 =>
  (toReadS a.reads).bind fun r3 =>
  some (GOp.mk a.time a.by_ a.kind r1 r2 a.src a.dst a.cell a.version r3)
noncomputable def toOpFS : Fsp := { fid := 47, ps := [⟨true, .base .op⟩], rs := [⟨true, .base .op⟩], ex := true, fn := fun x => toOp x }
noncomputable def toOpS (a : List GOp) : Option ((List GOp)) :=
  (mk (a.length : Int)).bind fun m1 =>
  loopD (fun (x2 : (List GOp) × (List GOp) × Int) =>
    bif (decide (x2.2.2 < (x2.1.length : Int))) then
      (idx x2.1 x2.2.2).bind fun e3 =>
      (toOp e3).bind fun r4 =>
      (idx x2.2.1 x2.2.2).bind fun _ =>
      (x2.2.1[x2.2.2.toNat]?).bind fun e6 =>
      some (.inl (x2.1, x2.2.1.set x2.2.2.toNat r4, w64 (x2.2.2 + 1)))
    else
      some (.inr (x2.2.1))
  ) (a, List.replicate m1 (GOp.mk 0 0 0 [] (GEdit.mk 0 0 (GCell.mk 0 0 0 [] [] 0)) [] [] 0 0 []), 0)
noncomputable def toOpSFS : Fsp := { fid := 23, ps := [⟨false, .list (.base .op)⟩], rs := [⟨false, .list (.base .op)⟩], ex := true, fn := fun x => toOpS x }
noncomputable def toReplica (a : GReplica) : Option (GReplica) :=
  (toOpS a.ops).bind fun r1 =>
  some (GReplica.mk a.id r1)
noncomputable def toReplicaFS : Fsp := { fid := 7, ps := [⟨true, .base .replica⟩], rs := [⟨true, .base .replica⟩], ex := true, fn := fun x => toReplica x }
noncomputable def iCopyRow (a : GRow) : Option (GRow) :=
  (gd (0 + a.cells.length)).bind fun _ =>
  (gd (0 + a.orig.length)).bind fun _ =>
  some (GRow.mk ([] ++ a.cells) ([] ++ a.orig))
noncomputable def iCopyRowFS : Fsp := { fid := 122, ps := [⟨true, .base .row⟩], rs := [⟨true, .base .row⟩], ex := true, fn := fun x => iCopyRow x }
noncomputable def iCopyValueB (riCopyValue : GVal → Option (GVal)) (riCopyValues : (List GVal) → Option ((List GVal))) (a : GVal) : Option (GVal) :=
  (riCopyValues a.list).bind fun r1 =>
  (gd (0 + a.columns.length)).bind fun _ =>
  loopD (fun (x2 : Int × Int × Int × Str × (List GVal) × (List Str) × (List GRow) × Int × Int × Int × Str × (List GVal) × (List Str) × (List GRow) × (List GRow) × Int × Int) =>
    bif (decide (x2.2.2.2.2.2.2.2.2.2.2.2.2.2.2.2.2 < x2.2.2.2.2.2.2.2.2.2.2.2.2.2.2.2.1)) then
      (idx x2.2.2.2.2.2.2.2.2.2.2.2.2.2.2.1 x2.2.2.2.2.2.2.2.2.2.2.2.2.2.2.2.2).bind fun e3 =>
      (iCopyRow e3).bind fun r4 =>
      (gd (x2.2.2.2.2.2.2.2.2.2.2.2.2.2.1.length + [r4].length)).bind fun _ =>
      some (.inl (x2.1, x2.2.1, x2.2.2.1, x2.2.2.2.1, x2.2.2.2.2.1, x2.2.2.2.2.2.1, x2.2.2.2.2.2.2.1, x2.2.2.2.2.2.2.2.1, x2.2.2.2.2.2.2.2.2.1, x2.2.2.2.2.2.2.2.2.2.1, x2.2.2.2.2.2.2.2.2.2.2.1, x2.2.2.2.2.2.2.2.2.2.2.2.1, x2.2.2.2.2.2.2.2.2.2.2.2.2.1, x2.2.2.2.2.2.2.2.2.2.2.2.2.2.1 ++ [r4], x2.2.2.2.2.2.2.2.2.2.2.2.2.2.2.1, x2.2.2.2.2.2.2.2.2.2.2.2.2.2.2.2.1, w64 (x2.2.2.2.2.2.2.2.2.2.2.2.2.2.2.2.2 + 1)))
    else
      some (.inr (GVal.mk x2.2.2.2.2.2.2.2.1 x2.2.2.2.2.2.2.2.2.1 x2.2.2.2.2.2.2.2.2.2.1 x2.2.2.2.2.2.2.2.2.2.2.1 x2.2.2.2.2.2.2.2.2.2.2.2.1 x2.2.2.2.2.2.2.2.2.2.2.2.2.1 x2.2.2.2.2.2.2.2.2.2.2.2.2.2.1))
  ) (0, 0, 0, [], [], [], [], a.kind, a.n, a.step, a.text, r1, [] ++ a.columns, [], a.rows, (a.rows.length : Int), 0)
noncomputable def iCopyValuesB (riCopyValue : GVal → Option (GVal)) (riCopyValues : (List GVal) → Option ((List GVal))) (a : List GVal) : Option ((List GVal)) :=
  loopD (fun (x1 : (List GVal) × (List GVal) × Int × Int) =>
    bif (decide (x1.2.2.2 < x1.2.2.1)) then
      (idx x1.2.1 x1.2.2.2).bind fun e2 =>
      (riCopyValue (reVal e2)).bind fun r3 =>
      (gd (x1.1.length + [reVal r3].length)).bind fun _ =>
      some (.inl (x1.1 ++ [reVal r3], x1.2.1, x1.2.2.1, w64 (x1.2.2.2 + 1)))
    else
      some (.inr (x1.1))
  ) ([], a, (a.length : Int), 0)
noncomputable def iCopyValueG : Nat → (GVal → Option (GVal)) × ((List GVal) → Option ((List GVal)))
  | 0 => (fun _ => none, fun _ => none)
  | n + 1 => (iCopyValueB (iCopyValueG n).1 (iCopyValueG n).2, iCopyValuesB (iCopyValueG n).1 (iCopyValueG n).2)
noncomputable def iCopyValue (a : GVal) : Option (GVal) := (iCopyValueG (siz a + 1)).1 a
noncomputable def iCopyValueFS : Fsp := { fid := 92, ps := [⟨true, .base .val⟩], rs := [⟨true, .base .val⟩], ex := true, fn := fun x => iCopyValue x }
noncomputable def iCopyValueFSN (n : Nat) : Fsp := { fid := 92, ps := [⟨true, .base .val⟩], rs := [⟨true, .base .val⟩], ex := true, fn := fun x => (iCopyValueG n).1 x }
noncomputable def iCopyValues (a : List GVal) : Option ((List GVal)) := (iCopyValueG (siz a + 1)).2 a
noncomputable def iCopyValuesFS : Fsp := { fid := 121, ps := [⟨false, .list (.base .val)⟩], rs := [⟨false, .list (.base .val)⟩], ex := true, fn := fun x => iCopyValues x }
noncomputable def iCopyValuesFSN (n : Nat) : Fsp := { fid := 121, ps := [⟨false, .list (.base .val)⟩], rs := [⟨false, .list (.base .val)⟩], ex := true, fn := fun x => (iCopyValueG n).2 x }
noncomputable def iCopyReads (a : List GRead) : Option ((List GRead)) :=
  loopD (fun (x1 : (List GRead) × (List GRead) × Int × Int) =>
    bif (decide (x1.2.2.2 < x1.2.2.1)) then
      (idx x1.2.1 x1.2.2.2).bind fun e2 =>
      (iCopyValue (reVal e2.result)).bind fun r3 =>
      (gd (x1.1.length + [GRead.mk e2.kind e2.n e2.time e2.text (reVal r3)].length)).bind fun _ =>
      some (.inl (x1.1 ++ [GRead.mk e2.kind e2.n e2.time e2.text (reVal r3)], x1.2.1, x1.2.2.1, w64 (x1.2.2.2 + 1)))
    else
      some (.inr (x1.1))
  ) ([], a, (a.length : Int), 0)
noncomputable def iCopyReadsFS : Fsp := { fid := 60, ps := [⟨false, .list (.base .read)⟩], rs := [⟨false, .list (.base .read)⟩], ex := true, fn := fun x => iCopyReads x }
noncomputable def iCopyOp (a : GOp) : Option (GOp) :=
  (gd (0 + a.seen.length)).bind fun _ =>
  (iCopyReads a.reads).bind fun r1 =>
  some (GOp.mk a.time a.by_ a.kind ([] ++ a.seen) a.edit a.src a.dst a.cell a.version r1)
noncomputable def iCopyOpFS : Fsp := { fid := 31, ps := [⟨true, .base .op⟩], rs := [⟨true, .base .op⟩], ex := true, fn := fun x => iCopyOp x }
noncomputable def iOpBefore (a : GOp) (b : GOp) : Option (Bool) :=
  bif (decide (a.time < b.time)) then
    some (true)
  else
    bif (a.time == b.time) then
      some ((decide (a.by_ < b.by_)))
    else
      some (false)
noncomputable def iOpBeforeFS : Fsp := { fid := 34, ps := [⟨true, .base .op⟩, ⟨true, .base .op⟩], rs := [⟨false, .base .bool⟩], ex := true, fn := fun x => iOpBefore x.1 x.2 }
/-- the list in order, if its entries can be put in strict order -/
noncomputable def sortMergeOps (xs : List GOp) : Option (List GOp) := (gd xs.length).bind fun _ => sortD (fun a b => iOpBefore a b == some true) xs
noncomputable def srtMergeOps : Srt := { fid := 32, g := 33, T := 26, t := .base .op, fn := sortMergeOps }
noncomputable def iMergeOps (a : List GOp) (b : List GOp) : Option ((List GOp)) :=
  (gd (0 + a.length)).bind fun _ =>
  (gd (([] ++ a).length + b.length)).bind fun _ =>
  loopD (fun (x1 : (List GOp) × (List GOp) × Int × Int) =>
    bif (decide (x1.2.2.2 < x1.2.2.1)) then
      (idx x1.2.1 x1.2.2.2).bind fun _ =>
      (x1.2.1[x1.2.2.2.toNat]?).bind fun e3 =>
      loopD (fun (x4 : (List GOp) × Int × Int × Int × (List Int) × Int × Int × Int × Int × Int × Str × Str × Int × Str × Str × Int × Int × (List GRead) × Bool × (List GOp) × Int × Int × Int × Int) =>
        bif (decide (x4.2.2.2.2.2.2.2.2.2.2.2.2.2.2.2.2.2.2.2.2.2.2.2 < x4.2.2.2.2.2.2.2.2.2.2.2.2.2.2.2.2.2.2.2.2.2.2.1)) then
          (idx x4.1 x4.2.2.2.2.2.2.2.2.2.2.2.2.2.2.2.2.2.2.2.2.2.2.2).bind fun _ =>
          (x4.1[x4.2.2.2.2.2.2.2.2.2.2.2.2.2.2.2.2.2.2.2.2.2.2.2.toNat]?).bind fun e6 =>
          bif x4.2.2.2.2.2.2.2.2.2.2.2.2.2.2.2.2.2.2.1 then
            some (.inl (x4.1, x4.2.1, x4.2.2.1, x4.2.2.2.1, x4.2.2.2.2.1, x4.2.2.2.2.2.1, x4.2.2.2.2.2.2.1, x4.2.2.2.2.2.2.2.1, x4.2.2.2.2.2.2.2.2.1, x4.2.2.2.2.2.2.2.2.2.1, x4.2.2.2.2.2.2.2.2.2.2.1, x4.2.2.2.2.2.2.2.2.2.2.2.1, x4.2.2.2.2.2.2.2.2.2.2.2.2.1, x4.2.2.2.2.2.2.2.2.2.2.2.2.2.1, x4.2.2.2.2.2.2.2.2.2.2.2.2.2.2.1, x4.2.2.2.2.2.2.2.2.2.2.2.2.2.2.2.1, x4.2.2.2.2.2.2.2.2.2.2.2.2.2.2.2.2.1, x4.2.2.2.2.2.2.2.2.2.2.2.2.2.2.2.2.2.1, true, x4.2.2.2.2.2.2.2.2.2.2.2.2.2.2.2.2.2.2.2.1, x4.2.2.2.2.2.2.2.2.2.2.2.2.2.2.2.2.2.2.2.2.1, x4.2.2.2.2.2.2.2.2.2.2.2.2.2.2.2.2.2.2.2.2.2.1, x4.2.2.2.2.2.2.2.2.2.2.2.2.2.2.2.2.2.2.2.2.2.2.1, w64 (x4.2.2.2.2.2.2.2.2.2.2.2.2.2.2.2.2.2.2.2.2.2.2.2 + 1)))
          else
            bif (e6.time == x4.2.1) then
              some (.inl (x4.1, x4.2.1, x4.2.2.1, x4.2.2.2.1, x4.2.2.2.2.1, x4.2.2.2.2.2.1, x4.2.2.2.2.2.2.1, x4.2.2.2.2.2.2.2.1, x4.2.2.2.2.2.2.2.2.1, x4.2.2.2.2.2.2.2.2.2.1, x4.2.2.2.2.2.2.2.2.2.2.1, x4.2.2.2.2.2.2.2.2.2.2.2.1, x4.2.2.2.2.2.2.2.2.2.2.2.2.1, x4.2.2.2.2.2.2.2.2.2.2.2.2.2.1, x4.2.2.2.2.2.2.2.2.2.2.2.2.2.2.1, x4.2.2.2.2.2.2.2.2.2.2.2.2.2.2.2.1, x4.2.2.2.2.2.2.2.2.2.2.2.2.2.2.2.2.1, x4.2.2.2.2.2.2.2.2.2.2.2.2.2.2.2.2.2.1, (e6.by_ == x4.2.2.1), x4.2.2.2.2.2.2.2.2.2.2.2.2.2.2.2.2.2.2.2.1, x4.2.2.2.2.2.2.2.2.2.2.2.2.2.2.2.2.2.2.2.2.1, x4.2.2.2.2.2.2.2.2.2.2.2.2.2.2.2.2.2.2.2.2.2.1, x4.2.2.2.2.2.2.2.2.2.2.2.2.2.2.2.2.2.2.2.2.2.2.1, w64 (x4.2.2.2.2.2.2.2.2.2.2.2.2.2.2.2.2.2.2.2.2.2.2.2 + 1)))
            else
              some (.inl (x4.1, x4.2.1, x4.2.2.1, x4.2.2.2.1, x4.2.2.2.2.1, x4.2.2.2.2.2.1, x4.2.2.2.2.2.2.1, x4.2.2.2.2.2.2.2.1, x4.2.2.2.2.2.2.2.2.1, x4.2.2.2.2.2.2.2.2.2.1, x4.2.2.2.2.2.2.2.2.2.2.1, x4.2.2.2.2.2.2.2.2.2.2.2.1, x4.2.2.2.2.2.2.2.2.2.2.2.2.1, x4.2.2.2.2.2.2.2.2.2.2.2.2.2.1, x4.2.2.2.2.2.2.2.2.2.2.2.2.2.2.1, x4.2.2.2.2.2.2.2.2.2.2.2.2.2.2.2.1, x4.2.2.2.2.2.2.2.2.2.2.2.2.2.2.2.2.1, x4.2.2.2.2.2.2.2.2.2.2.2.2.2.2.2.2.2.1, false, x4.2.2.2.2.2.2.2.2.2.2.2.2.2.2.2.2.2.2.2.1, x4.2.2.2.2.2.2.2.2.2.2.2.2.2.2.2.2.2.2.2.2.1, x4.2.2.2.2.2.2.2.2.2.2.2.2.2.2.2.2.2.2.2.2.2.1, x4.2.2.2.2.2.2.2.2.2.2.2.2.2.2.2.2.2.2.2.2.2.2.1, w64 (x4.2.2.2.2.2.2.2.2.2.2.2.2.2.2.2.2.2.2.2.2.2.2.2 + 1)))
        else
          (
            bif (!x4.2.2.2.2.2.2.2.2.2.2.2.2.2.2.2.2.2.2.1) then
              (iCopyOp (GOp.mk x4.2.1 x4.2.2.1 x4.2.2.2.1 x4.2.2.2.2.1 (GEdit.mk x4.2.2.2.2.2.1 x4.2.2.2.2.2.2.1 (GCell.mk x4.2.2.2.2.2.2.2.1 x4.2.2.2.2.2.2.2.2.1 x4.2.2.2.2.2.2.2.2.2.1 x4.2.2.2.2.2.2.2.2.2.2.1 x4.2.2.2.2.2.2.2.2.2.2.2.1 x4.2.2.2.2.2.2.2.2.2.2.2.2.1)) x4.2.2.2.2.2.2.2.2.2.2.2.2.2.1 x4.2.2.2.2.2.2.2.2.2.2.2.2.2.2.1 x4.2.2.2.2.2.2.2.2.2.2.2.2.2.2.2.1 x4.2.2.2.2.2.2.2.2.2.2.2.2.2.2.2.2.1 x4.2.2.2.2.2.2.2.2.2.2.2.2.2.2.2.2.2.1)).bind fun r7 =>
              (gd (x4.1.length + [r7].length)).bind fun _ =>
              some (.inl (x4.1 ++ [r7], x4.2.2.2.2.2.2.2.2.2.2.2.2.2.2.2.2.2.2.2.1, x4.2.2.2.2.2.2.2.2.2.2.2.2.2.2.2.2.2.2.2.2.1, w64 (x4.2.2.2.2.2.2.2.2.2.2.2.2.2.2.2.2.2.2.2.2.2.1 + 1)))
            else
              some (.inl (x4.1, x4.2.2.2.2.2.2.2.2.2.2.2.2.2.2.2.2.2.2.2.1, x4.2.2.2.2.2.2.2.2.2.2.2.2.2.2.2.2.2.2.2.2.1, w64 (x4.2.2.2.2.2.2.2.2.2.2.2.2.2.2.2.2.2.2.2.2.2.1 + 1)))
          ).bind fun r => some (.inr r)
      ) (x1.1, e3.time, e3.by_, e3.kind, e3.seen, e3.edit.kind, e3.edit.pos, e3.edit.cell.id, e3.edit.cell.version, e3.edit.cell.kind, e3.edit.cell.name, e3.edit.cell.code, e3.edit.cell.n, e3.src, e3.dst, e3.cell, e3.version, e3.reads, false, x1.2.1, x1.2.2.1, x1.2.2.2, (x1.1.length : Int), 0)
    else
      (
        (sortMergeOps x1.1).bind fun y8 =>
        some (y8)
      ).bind fun r => some (.inr r)
  ) ([], ([] ++ a) ++ b, ((([] ++ a) ++ b).length : Int), 0)
noncomputable def iMergeOpsFS : Fsp := { fid := 14, ps := [⟨false, .list (.base .op)⟩, ⟨false, .list (.base .op)⟩], rs := [⟨false, .list (.base .op)⟩], ex := true, fn := fun x => iMergeOps x.1 x.2 }
noncomputable def iWithin (a : Int) (b : Int) (c : Int) : Option (Bool) :=
  bif (decide (b ≤ a)) then
    some ((decide (a ≤ c)))
  else
    some (false)
noncomputable def iWithinFS : Fsp := { fid := 48, ps := [⟨false, .base .int⟩, ⟨false, .base .int⟩, ⟨false, .base .int⟩], rs := [⟨false, .base .bool⟩], ex := true, fn := fun x => iWithin x.1 x.2.1 x.2.2 }
noncomputable def iIsValidOp (a : GOp) : Option (Bool) :=
  (iWithin a.time 1 300).bind fun r1 =>
  bif (!r1) then
    some (false)
  else
  (iWithin a.by_ 0 2).bind fun r2 =>
  bif (!r2) then
    some (false)
  else
  bif ((a.seen.length : Int) != 3) then
    some (false)
  else
  loopD (fun (x3 : Int × Int × Int × (List Int) × Int × Int × Int × Int × Int × Str × Str × Int × Str × Str × Int × Int × (List GRead) × (List Int) × Int × Int) =>
    bif (decide (x3.2.2.2.2.2.2.2.2.2.2.2.2.2.2.2.2.2.2.2 < x3.2.2.2.2.2.2.2.2.2.2.2.2.2.2.2.2.2.2.1)) then
      (idx x3.2.2.2.2.2.2.2.2.2.2.2.2.2.2.2.2.2.1 x3.2.2.2.2.2.2.2.2.2.2.2.2.2.2.2.2.2.2.2).bind fun e4 =>
      (iWithin e4 0 60).bind fun r5 =>
      bif (!r5) then
        some (.inr (false))
      else
        some (.inl (x3.1, x3.2.1, x3.2.2.1, x3.2.2.2.1, x3.2.2.2.2.1, x3.2.2.2.2.2.1, x3.2.2.2.2.2.2.1, x3.2.2.2.2.2.2.2.1, x3.2.2.2.2.2.2.2.2.1, x3.2.2.2.2.2.2.2.2.2.1, x3.2.2.2.2.2.2.2.2.2.2.1, x3.2.2.2.2.2.2.2.2.2.2.2.1, x3.2.2.2.2.2.2.2.2.2.2.2.2.1, x3.2.2.2.2.2.2.2.2.2.2.2.2.2.1, x3.2.2.2.2.2.2.2.2.2.2.2.2.2.2.1, x3.2.2.2.2.2.2.2.2.2.2.2.2.2.2.2.1, x3.2.2.2.2.2.2.2.2.2.2.2.2.2.2.2.2.1, x3.2.2.2.2.2.2.2.2.2.2.2.2.2.2.2.2.2.1, x3.2.2.2.2.2.2.2.2.2.2.2.2.2.2.2.2.2.2.1, w64 (x3.2.2.2.2.2.2.2.2.2.2.2.2.2.2.2.2.2.2.2 + 1)))
    else
    (
      bif (x3.2.2.2.2.2.2.2.2.2.2.2.2.1 == []) then
        bif (x3.2.2.2.2.2.2.2.2.2.2.2.2.2.2.1 == 0) then
          bif (x3.2.2.2.2.2.2.2.2.2.2.2.2.2.2.2.1 == 0) then
            bif (x3.2.2.1 == 1) then
              bif (x3.2.2.2.2.2.2.2.2.2.2.2.2.2.1 == []) then
                some (((x3.2.2.2.2.2.2.2.2.2.2.2.2.2.2.2.2.1.length : Int) == 0))
              else
                some (false)
            else
            bif (x3.2.2.1 == 2) then
              bif ((x3.2.2.2.2.1 == 0) && ((x3.2.2.2.2.2.1 == 0) && ((x3.2.2.2.2.2.2.1 == 0) && ((x3.2.2.2.2.2.2.2.1 == 0) && ((x3.2.2.2.2.2.2.2.2.1 == 0) && ((x3.2.2.2.2.2.2.2.2.2.1 == []) && ((x3.2.2.2.2.2.2.2.2.2.2.1 == []) && (x3.2.2.2.2.2.2.2.2.2.2.2.1 == 0)))))))) then
                some (((x3.2.2.2.2.2.2.2.2.2.2.2.2.2.2.2.2.1.length : Int) == 0))
              else
                some (false)
            else
              bif (x3.2.2.1 == 3) then
                bif ((x3.2.2.2.2.1 == 0) && ((x3.2.2.2.2.2.1 == 0) && ((x3.2.2.2.2.2.2.1 == 0) && ((x3.2.2.2.2.2.2.2.1 == 0) && ((x3.2.2.2.2.2.2.2.2.1 == 0) && ((x3.2.2.2.2.2.2.2.2.2.1 == []) && ((x3.2.2.2.2.2.2.2.2.2.2.1 == []) && (x3.2.2.2.2.2.2.2.2.2.2.2.1 == 0)))))))) then
                  some ((x3.2.2.2.2.2.2.2.2.2.2.2.2.2.1 == []))
                else
                  some (false)
              else
                some (false)
          else
          bif (x3.2.2.1 == 1) then
            bif (x3.2.2.2.2.2.2.2.2.2.2.2.2.2.1 == []) then
              some (false)
            else
              some (false)
          else
          bif (x3.2.2.1 == 2) then
            bif ((x3.2.2.2.2.1 == 0) && ((x3.2.2.2.2.2.1 == 0) && ((x3.2.2.2.2.2.2.1 == 0) && ((x3.2.2.2.2.2.2.2.1 == 0) && ((x3.2.2.2.2.2.2.2.2.1 == 0) && ((x3.2.2.2.2.2.2.2.2.2.1 == []) && ((x3.2.2.2.2.2.2.2.2.2.2.1 == []) && (x3.2.2.2.2.2.2.2.2.2.2.2.1 == 0)))))))) then
              some (false)
            else
              some (false)
          else
            bif (x3.2.2.1 == 3) then
              bif ((x3.2.2.2.2.1 == 0) && ((x3.2.2.2.2.2.1 == 0) && ((x3.2.2.2.2.2.2.1 == 0) && ((x3.2.2.2.2.2.2.2.1 == 0) && ((x3.2.2.2.2.2.2.2.2.1 == 0) && ((x3.2.2.2.2.2.2.2.2.2.1 == []) && ((x3.2.2.2.2.2.2.2.2.2.2.1 == []) && (x3.2.2.2.2.2.2.2.2.2.2.2.1 == 0)))))))) then
                some ((x3.2.2.2.2.2.2.2.2.2.2.2.2.2.1 == []))
              else
                some (false)
            else
              some (false)
        else
        bif (x3.2.2.1 == 1) then
          bif (x3.2.2.2.2.2.2.2.2.2.2.2.2.2.1 == []) then
            some (false)
          else
            some (false)
        else
        bif (x3.2.2.1 == 2) then
          bif ((x3.2.2.2.2.1 == 0) && ((x3.2.2.2.2.2.1 == 0) && ((x3.2.2.2.2.2.2.1 == 0) && ((x3.2.2.2.2.2.2.2.1 == 0) && ((x3.2.2.2.2.2.2.2.2.1 == 0) && ((x3.2.2.2.2.2.2.2.2.2.1 == []) && ((x3.2.2.2.2.2.2.2.2.2.2.1 == []) && (x3.2.2.2.2.2.2.2.2.2.2.2.1 == 0)))))))) then
            some (false)
          else
            some (false)
        else
          bif (x3.2.2.1 == 3) then
            bif ((x3.2.2.2.2.1 == 0) && ((x3.2.2.2.2.2.1 == 0) && ((x3.2.2.2.2.2.2.1 == 0) && ((x3.2.2.2.2.2.2.2.1 == 0) && ((x3.2.2.2.2.2.2.2.2.1 == 0) && ((x3.2.2.2.2.2.2.2.2.2.1 == []) && ((x3.2.2.2.2.2.2.2.2.2.2.1 == []) && (x3.2.2.2.2.2.2.2.2.2.2.2.1 == 0)))))))) then
              some ((x3.2.2.2.2.2.2.2.2.2.2.2.2.2.1 == []))
            else
              some (false)
          else
            some (false)
      else
      bif (x3.2.2.2.2.2.2.2.2.2.2.2.2.2.2.1 == 0) then
        bif (x3.2.2.2.2.2.2.2.2.2.2.2.2.2.2.2.1 == 0) then
          bif (x3.2.2.1 == 1) then
            some (false)
          else
          bif (x3.2.2.1 == 2) then
            bif ((x3.2.2.2.2.1 == 0) && ((x3.2.2.2.2.2.1 == 0) && ((x3.2.2.2.2.2.2.1 == 0) && ((x3.2.2.2.2.2.2.2.1 == 0) && ((x3.2.2.2.2.2.2.2.2.1 == 0) && ((x3.2.2.2.2.2.2.2.2.2.1 == []) && ((x3.2.2.2.2.2.2.2.2.2.2.1 == []) && (x3.2.2.2.2.2.2.2.2.2.2.2.1 == 0)))))))) then
              some (((x3.2.2.2.2.2.2.2.2.2.2.2.2.2.2.2.2.1.length : Int) == 0))
            else
              some (false)
          else
            bif (x3.2.2.1 == 3) then
              bif ((x3.2.2.2.2.1 == 0) && ((x3.2.2.2.2.2.1 == 0) && ((x3.2.2.2.2.2.2.1 == 0) && ((x3.2.2.2.2.2.2.2.1 == 0) && ((x3.2.2.2.2.2.2.2.2.1 == 0) && ((x3.2.2.2.2.2.2.2.2.2.1 == []) && ((x3.2.2.2.2.2.2.2.2.2.2.1 == []) && (x3.2.2.2.2.2.2.2.2.2.2.2.1 == 0)))))))) then
                some (false)
              else
                some (false)
            else
              some (false)
        else
        bif (x3.2.2.1 == 1) then
          some (false)
        else
        bif (x3.2.2.1 == 2) then
          bif ((x3.2.2.2.2.1 == 0) && ((x3.2.2.2.2.2.1 == 0) && ((x3.2.2.2.2.2.2.1 == 0) && ((x3.2.2.2.2.2.2.2.1 == 0) && ((x3.2.2.2.2.2.2.2.2.1 == 0) && ((x3.2.2.2.2.2.2.2.2.2.1 == []) && ((x3.2.2.2.2.2.2.2.2.2.2.1 == []) && (x3.2.2.2.2.2.2.2.2.2.2.2.1 == 0)))))))) then
            some (false)
          else
            some (false)
        else
          bif (x3.2.2.1 == 3) then
            bif ((x3.2.2.2.2.1 == 0) && ((x3.2.2.2.2.2.1 == 0) && ((x3.2.2.2.2.2.2.1 == 0) && ((x3.2.2.2.2.2.2.2.1 == 0) && ((x3.2.2.2.2.2.2.2.2.1 == 0) && ((x3.2.2.2.2.2.2.2.2.2.1 == []) && ((x3.2.2.2.2.2.2.2.2.2.2.1 == []) && (x3.2.2.2.2.2.2.2.2.2.2.2.1 == 0)))))))) then
              some (false)
            else
              some (false)
          else
            some (false)
      else
      bif (x3.2.2.1 == 1) then
        some (false)
      else
      bif (x3.2.2.1 == 2) then
        bif ((x3.2.2.2.2.1 == 0) && ((x3.2.2.2.2.2.1 == 0) && ((x3.2.2.2.2.2.2.1 == 0) && ((x3.2.2.2.2.2.2.2.1 == 0) && ((x3.2.2.2.2.2.2.2.2.1 == 0) && ((x3.2.2.2.2.2.2.2.2.2.1 == []) && ((x3.2.2.2.2.2.2.2.2.2.2.1 == []) && (x3.2.2.2.2.2.2.2.2.2.2.2.1 == 0)))))))) then
          some (false)
        else
          some (false)
      else
        bif (x3.2.2.1 == 3) then
          bif ((x3.2.2.2.2.1 == 0) && ((x3.2.2.2.2.2.1 == 0) && ((x3.2.2.2.2.2.2.1 == 0) && ((x3.2.2.2.2.2.2.2.1 == 0) && ((x3.2.2.2.2.2.2.2.2.1 == 0) && ((x3.2.2.2.2.2.2.2.2.2.1 == []) && ((x3.2.2.2.2.2.2.2.2.2.2.1 == []) && (x3.2.2.2.2.2.2.2.2.2.2.2.1 == 0)))))))) then
            some (false)
          else
            some (false)
        else
          some (false)
    ).bind fun r => some (.inr r)
  ) (a.time, a.by_, a.kind, a.seen, a.edit.kind, a.edit.pos, a.edit.cell.id, a.edit.cell.version, a.edit.cell.kind, a.edit.cell.name, a.edit.cell.code, a.edit.cell.n, a.src, a.dst, a.cell, a.version, a.reads, a.seen, (a.seen.length : Int), 0)
noncomputable def iIsValidOpFS : Fsp := { fid := 39, ps := [⟨true, .base .op⟩], rs := [⟨false, .base .bool⟩], ex := true, fn := fun x => iIsValidOp x }
noncomputable def iIsValidLog (a : List GOp) : Option (Bool) :=
  loopD (fun (x1 : (List GOp) × (List GOp) × Int × Int) =>
    bif (decide (x1.2.2.2 < x1.2.2.1)) then
      (idx x1.2.1 x1.2.2.2).bind fun e2 =>
      (iIsValidOp e2).bind fun r3 =>
      bif (!r3) then
        some (.inr (false))
      else
        bif (decide (x1.2.2.2 > 0)) then
          (idx x1.1 (w64 (x1.2.2.2 - 1))).bind fun e4 =>
          (iOpBefore e4 e2).bind fun r5 =>
          bif (!r5) then
            some (.inr (false))
          else
            some (.inl (x1.1, x1.2.1, x1.2.2.1, w64 (x1.2.2.2 + 1)))
        else
          some (.inl (x1.1, x1.2.1, x1.2.2.1, w64 (x1.2.2.2 + 1)))
    else
      some (.inr ((decide ((x1.1.length : Int) ≤ 60))))
  ) (a, a, (a.length : Int), 0)
noncomputable def iIsValidLogFS : Fsp := { fid := 17, ps := [⟨false, .list (.base .op)⟩], rs := [⟨false, .base .bool⟩], ex := true, fn := fun x => iIsValidLog x }
noncomputable def iIsValidReplica (a : GReplica) : Option (Bool) :=
  (iWithin a.id 0 2).bind fun r1 =>
  bif r1 then
    (iIsValidLog a.ops).bind fun r2 =>
    some (r2)
  else
    some (false)
noncomputable def iIsValidReplicaFS : Fsp := { fid := 24, ps := [⟨true, .base .replica⟩], rs := [⟨false, .base .bool⟩], ex := true, fn := fun x => iIsValidReplica x }
noncomputable def iCopyOps (a : List GOp) : Option ((List GOp)) :=
  loopD (fun (x1 : (List GOp) × (List GOp) × Int × Int) =>
    bif (decide (x1.2.2.2 < x1.2.2.1)) then
      (idx x1.2.1 x1.2.2.2).bind fun e2 =>
      (iCopyOp e2).bind fun r3 =>
      (gd (x1.1.length + [r3].length)).bind fun _ =>
      some (.inl (x1.1 ++ [r3], x1.2.1, x1.2.2.1, w64 (x1.2.2.2 + 1)))
    else
      some (.inr (x1.1))
  ) ([], a, (a.length : Int), 0)
noncomputable def iCopyOpsFS : Fsp := { fid := 49, ps := [⟨false, .list (.base .op)⟩], rs := [⟨false, .list (.base .op)⟩], ex := true, fn := fun x => iCopyOps x }
noncomputable def iCopyReplica (a : GReplica) : Option (GReplica) :=
  (iCopyOps a.ops).bind fun r1 =>
  some (GReplica.mk a.id r1)
noncomputable def iCopyReplicaFS : Fsp := { fid := 25, ps := [⟨true, .base .replica⟩], rs := [⟨true, .base .replica⟩], ex := true, fn := fun x => iCopyReplica x }
noncomputable def iPull (a : GReplica) (b : GReplica) : Option (GReplica × Bool) :=
  (iMergeOps a.ops b.ops).bind fun r1 =>
  (iIsValidReplica a).bind fun r2 =>
  bif (!r2) then
    (iCopyReplica a).bind fun r3 =>
    some (r3, false)
  else
  (iIsValidReplica b).bind fun r4 =>
  bif (!r4) then
    (iCopyReplica a).bind fun r5 =>
    some (r5, false)
  else
    (iIsValidReplica (GReplica.mk a.id r1)).bind fun r6 =>
    bif (!r6) then
      (iCopyReplica a).bind fun r7 =>
      some (r7, false)
    else
      some (GReplica.mk a.id r1, true)
noncomputable def iPullFS : Fsp := { fid := 8, ps := [⟨true, .base .replica⟩, ⟨true, .base .replica⟩], rs := [⟨true, .base .replica⟩, ⟨false, .base .bool⟩], ex := true, fn := fun x => iPull x.1 x.2 }
noncomputable def eqIntS (a : List Int) (b : List Int) : Option (Bool) :=
  bif ((a.length : Int) != (b.length : Int)) then
    some (false)
  else
  loopD (fun (x1 : (List Int) × (List Int) × Int) =>
    bif (decide (x1.2.2 < (x1.1.length : Int))) then
      (idx x1.1 x1.2.2).bind fun e2 =>
      (idx x1.2.1 x1.2.2).bind fun e3 =>
      bif (e2 != e3) then
        some (.inr (false))
      else
        some (.inl (x1.1, x1.2.1, w64 (x1.2.2 + 1)))
    else
      some (.inr (true))
  ) (a, b, 0)
noncomputable def eqIntSFS : Fsp := { fid := 76, ps := [⟨false, .list (.base .int)⟩, ⟨false, .list (.base .int)⟩], rs := [⟨false, .base .bool⟩], ex := true, fn := fun x => eqIntS x.1 x.2 }
noncomputable def eqCell (a : GCell) (b : GCell) : Option (Bool) :=
  bif (a.id != b.id) then
    some (false)
  else
  bif (a.version != b.version) then
    some (false)
  else
  bif (a.kind != b.kind) then
    some (false)
  else
    bif (!(a.name == b.name)) then
      some (false)
    else
      bif (!(a.code == b.code)) then
        some (false)
      else
        bif (a.n != b.n) then
          some (false)
        else
          some (true)
noncomputable def eqCellFS : Fsp := { fid := 112, ps := [⟨true, .base .cell⟩, ⟨true, .base .cell⟩], rs := [⟨false, .base .bool⟩], ex := true, fn := fun x => eqCell x.1 x.2 }
noncomputable def eqEdit (a : GEdit) (b : GEdit) : Option (Bool) :=
  bif (a.kind != b.kind) then
    some (false)
  else
    bif (a.pos != b.pos) then
      some (false)
    else
      (eqCell a.cell b.cell).bind fun r1 =>
      bif (!r1) then
        some (false)
      else
        some (true)
noncomputable def eqEditFS : Fsp := { fid := 77, ps := [⟨true, .base .edit⟩, ⟨true, .base .edit⟩], rs := [⟨false, .base .bool⟩], ex := true, fn := fun x => eqEdit x.1 x.2 }
noncomputable def eqStringS (a : List Str) (b : List Str) : Option (Bool) :=
  bif ((a.length : Int) != (b.length : Int)) then
    some (false)
  else
  loopD (fun (x1 : (List Str) × (List Str) × Int) =>
    bif (decide (x1.2.2 < (x1.1.length : Int))) then
      (idx x1.1 x1.2.2).bind fun e2 =>
      (idx x1.2.1 x1.2.2).bind fun e3 =>
      bif (!(e2 == e3)) then
        some (.inr (false))
      else
        some (.inl (x1.1, x1.2.1, w64 (x1.2.2 + 1)))
    else
      some (.inr (true))
  ) (a, b, 0)
noncomputable def eqStringSFS : Fsp := { fid := 144, ps := [⟨false, .list (.base .str)⟩, ⟨false, .list (.base .str)⟩], rs := [⟨false, .base .bool⟩], ex := true, fn := fun x => eqStringS x.1 x.2 }
noncomputable def eqOrigin (a : GOrigin) (b : GOrigin) : Option (Bool) :=
  bif (a.cell != b.cell) then
    some (false)
  else
    bif (a.row != b.row) then
      some (false)
    else
      some (true)
noncomputable def eqOriginFS : Fsp := { fid := 175, ps := [⟨true, .base .origin⟩, ⟨true, .base .origin⟩], rs := [⟨false, .base .bool⟩], ex := true, fn := fun x => eqOrigin x.1 x.2 }
noncomputable def eqOriginS (a : List GOrigin) (b : List GOrigin) : Option (Bool) :=
  bif ((a.length : Int) != (b.length : Int)) then
    some (false)
  else
  loopD (fun (x1 : (List GOrigin) × (List GOrigin) × Int) =>
    bif (decide (x1.2.2 < (x1.1.length : Int))) then
      (idx x1.1 x1.2.2).bind fun e2 =>
      (idx x1.2.1 x1.2.2).bind fun e3 =>
      (eqOrigin e2 e3).bind fun r4 =>
      bif (!r4) then
        some (.inr (false))
      else
        some (.inl (x1.1, x1.2.1, w64 (x1.2.2 + 1)))
    else
      some (.inr (true))
  ) (a, b, 0)
noncomputable def eqOriginSFS : Fsp := { fid := 172, ps := [⟨false, .list (.base .origin)⟩, ⟨false, .list (.base .origin)⟩], rs := [⟨false, .base .bool⟩], ex := true, fn := fun x => eqOriginS x.1 x.2 }
noncomputable def eqRow (a : GRow) (b : GRow) : Option (Bool) :=
  (eqIntS a.cells b.cells).bind fun r1 =>
  bif (!r1) then
    some (false)
  else
    (eqOriginS a.orig b.orig).bind fun r2 =>
    bif (!r2) then
      some (false)
    else
      some (true)
noncomputable def eqRowFS : Fsp := { fid := 161, ps := [⟨true, .base .row⟩, ⟨true, .base .row⟩], rs := [⟨false, .base .bool⟩], ex := true, fn := fun x => eqRow x.1 x.2 }
noncomputable def eqRowS (a : List GRow) (b : List GRow) : Option (Bool) :=
  bif ((a.length : Int) != (b.length : Int)) then
    some (false)
  else
  loopD (fun (x1 : (List GRow) × (List GRow) × Int) =>
    bif (decide (x1.2.2 < (x1.1.length : Int))) then
      (idx x1.1 x1.2.2).bind fun e2 =>
      (idx x1.2.1 x1.2.2).bind fun e3 =>
      (eqRow e2 e3).bind fun r4 =>
      bif (!r4) then
        some (.inr (false))
      else
        some (.inl (x1.1, x1.2.1, w64 (x1.2.2 + 1)))
    else
      some (.inr (true))
  ) (a, b, 0)
noncomputable def eqRowSFS : Fsp := { fid := 145, ps := [⟨false, .list (.base .row)⟩, ⟨false, .list (.base .row)⟩], rs := [⟨false, .base .bool⟩], ex := true, fn := fun x => eqRowS x.1 x.2 }
noncomputable def eqValueB (reqValue : GVal → GVal → Option (Bool)) (reqValueS : (List GVal) → (List GVal) → Option (Bool)) (a : GVal) (b : GVal) : Option (Bool) :=
  bif (a.kind != b.kind) then
    some (false)
  else
  bif (a.n != b.n) then
    some (false)
  else
  bif (a.step != b.step) then
    some (false)
  else
  bif (!(a.text == b.text)) then
    some (false)
  else
  (reqValueS a.list b.list).bind fun r1 =>
  bif (!r1) then
    some (false)
  else
    (eqStringS a.columns b.columns).bind fun r2 =>
    bif (!r2) then
      some (false)
    else
      (eqRowS a.rows b.rows).bind fun r3 =>
      bif (!r3) then
        some (false)
      else
        some (true)
noncomputable def eqValueSB (reqValue : GVal → GVal → Option (Bool)) (reqValueS : (List GVal) → (List GVal) → Option (Bool)) (a : List GVal) (b : List GVal) : Option (Bool) :=
  bif ((a.length : Int) != (b.length : Int)) then
    some (false)
  else
  loopD (fun (x1 : (List GVal) × (List GVal) × Int) =>
    bif (decide (x1.2.2 < (x1.1.length : Int))) then
      (idx x1.1 x1.2.2).bind fun e2 =>
      (idx x1.2.1 x1.2.2).bind fun e3 =>
      (reqValue (reVal e2) (reVal e3)).bind fun r4 =>
      bif (!r4) then
        some (.inr (false))
      else
        some (.inl (x1.1, x1.2.1, w64 (x1.2.2 + 1)))
    else
      some (.inr (true))
  ) (a, b, 0)
noncomputable def eqValueG : Nat → (GVal → GVal → Option (Bool)) × ((List GVal) → (List GVal) → Option (Bool))
  | 0 => (fun _ _ => none, fun _ _ => none)
  | n + 1 => (eqValueB (eqValueG n).1 (eqValueG n).2, eqValueSB (eqValueG n).1 (eqValueG n).2)
noncomputable def eqValue (a : GVal) (b : GVal) : Option (Bool) := (eqValueG (siz a + siz b + 1)).1 a b
noncomputable def eqValueFS : Fsp := { fid := 128, ps := [⟨true, .base .val⟩, ⟨true, .base .val⟩], rs := [⟨false, .base .bool⟩], ex := true, fn := fun x => eqValue x.1 x.2 }
noncomputable def eqValueFSN (n : Nat) : Fsp := { fid := 128, ps := [⟨true, .base .val⟩, ⟨true, .base .val⟩], rs := [⟨false, .base .bool⟩], ex := true, fn := fun x => (eqValueG n).1 x.1 x.2 }
noncomputable def eqValueS (a : List GVal) (b : List GVal) : Option (Bool) := (eqValueG (siz a + siz b + 1)).2 a b
noncomputable def eqValueSFS : Fsp := { fid := 143, ps := [⟨false, .list (.base .val)⟩, ⟨false, .list (.base .val)⟩], rs := [⟨false, .base .bool⟩], ex := true, fn := fun x => eqValueS x.1 x.2 }
noncomputable def eqValueSFSN (n : Nat) : Fsp := { fid := 143, ps := [⟨false, .list (.base .val)⟩, ⟨false, .list (.base .val)⟩], rs := [⟨false, .base .bool⟩], ex := true, fn := fun x => (eqValueG n).2 x.1 x.2 }
noncomputable def eqRead (a : GRead) (b : GRead) : Option (Bool) :=
  bif (a.kind != b.kind) then
    some (false)
  else
  bif (a.n != b.n) then
    some (false)
  else
  bif (a.time != b.time) then
    some (false)
  else
    bif (!(a.text == b.text)) then
      some (false)
    else
      (eqValue (reVal a.result) (reVal b.result)).bind fun r1 =>
      bif (!r1) then
        some (false)
      else
        some (true)
noncomputable def eqReadFS : Fsp := { fid := 113, ps := [⟨true, .base .read⟩, ⟨true, .base .read⟩], rs := [⟨false, .base .bool⟩], ex := true, fn := fun x => eqRead x.1 x.2 }
noncomputable def eqReadS (a : List GRead) (b : List GRead) : Option (Bool) :=
  bif ((a.length : Int) != (b.length : Int)) then
    some (false)
  else
  loopD (fun (x1 : (List GRead) × (List GRead) × Int) =>
    bif (decide (x1.2.2 < (x1.1.length : Int))) then
      (idx x1.1 x1.2.2).bind fun e2 =>
      (idx x1.2.1 x1.2.2).bind fun e3 =>
      (eqRead (reRead e2) (reRead e3)).bind fun r4 =>
      bif (!r4) then
        some (.inr (false))
      else
        some (.inl (x1.1, x1.2.1, w64 (x1.2.2 + 1)))
    else
      some (.inr (true))
  ) (a, b, 0)
noncomputable def eqReadSFS : Fsp := { fid := 78, ps := [⟨false, .list (.base .read)⟩, ⟨false, .list (.base .read)⟩], rs := [⟨false, .base .bool⟩], ex := true, fn := fun x => eqReadS x.1 x.2 }
noncomputable def eqOp (a : GOp) (b : GOp) : Option (Bool) :=
  bif (a.time != b.time) then
    some (false)
  else
  bif (a.by_ != b.by_) then
    some (false)
  else
  bif (a.kind != b.kind) then
    some (false)
  else
  (eqIntS a.seen b.seen).bind fun r1 =>
  bif (!r1) then
    some (false)
  else
  (eqEdit a.edit b.edit).bind fun r2 =>
  bif (!r2) then
    some (false)
  else
  bif (!(a.src == b.src)) then
    some (false)
  else
  bif (!(a.dst == b.dst)) then
    some (false)
  else
  bif (a.cell != b.cell) then
    some (false)
  else
    bif (a.version != b.version) then
      some (false)
    else
      (eqReadS a.reads b.reads).bind fun r3 =>
      bif (!r3) then
        some (false)
      else
        some (true)
noncomputable def eqOpFS : Fsp := { fid := 50, ps := [⟨true, .base .op⟩, ⟨true, .base .op⟩], rs := [⟨false, .base .bool⟩], ex := true, fn := fun x => eqOp x.1 x.2 }
noncomputable def eqOpS (a : List GOp) (b : List GOp) : Option (Bool) :=
  bif ((a.length : Int) != (b.length : Int)) then
    some (false)
  else
  loopD (fun (x1 : (List GOp) × (List GOp) × Int) =>
    bif (decide (x1.2.2 < (x1.1.length : Int))) then
      (idx x1.1 x1.2.2).bind fun e2 =>
      (idx x1.2.1 x1.2.2).bind fun e3 =>
      (eqOp e2 e3).bind fun r4 =>
      bif (!r4) then
        some (.inr (false))
      else
        some (.inl (x1.1, x1.2.1, w64 (x1.2.2 + 1)))
    else
      some (.inr (true))
  ) (a, b, 0)
noncomputable def eqOpSFS : Fsp := { fid := 26, ps := [⟨false, .list (.base .op)⟩, ⟨false, .list (.base .op)⟩], rs := [⟨false, .base .bool⟩], ex := true, fn := fun x => eqOpS x.1 x.2 }
noncomputable def eqReplica (a : GReplica) (b : GReplica) : Option (Bool) :=
  bif (a.id != b.id) then
    some (false)
  else
    (eqOpS a.ops b.ops).bind fun r1 =>
    bif (!r1) then
      some (false)
    else
      some (true)
noncomputable def eqReplicaFS : Fsp := { fid := 9, ps := [⟨true, .base .replica⟩, ⟨true, .base .replica⟩], rs := [⟨false, .base .bool⟩], ex := true, fn := fun x => eqReplica x.1 x.2 }
noncomputable def markIntS (a : List Int) (b : Int) : Option (List Int × Int) :=
  loopD (fun (x : List Int × Int × Int) =>
    bif (decide (x.2.1 < (x.1.length : Int))) then
      (idx x.1 x.2.1).bind fun _ =>
      (x.1[x.2.1.toNat]?).bind fun e1 =>
      (some (x.1.set x.2.1.toNat x.2.2)).bind fun z2 =>
      some (.inl (z2, w64 (x.2.1 + 1), w64 (x.2.2 + 1)))
    else
      some (.inr (x.1, x.2.2))
  ) (a, 0, b)
noncomputable def markIntSMS : Msp := { fid := 51, sh := ⟨false, .list (.base .int)⟩, fn := fun x n => markIntS x n }
noncomputable def markText (a : Int) : Option (Str) :=
  bif (decide (a ≤ 0)) then
    some ([109, 48])
  else
    loopD (fun (x1 : Int × Str) =>
      bif (decide (x1.1 > 0)) then
        (gd ((bytesOf [w8 (w64 (48 + (x1.1.tmod 10)))]).length + x1.2.length)).bind fun _ =>
        some (.inl (w64 (x1.1.tdiv 10), (bytesOf [w8 (w64 (48 + (x1.1.tmod 10)))]) ++ x1.2))
      else
        (
          (gd ([109].length + x1.2.length)).bind fun _ =>
          some ([109] ++ x1.2)
        ).bind fun r => some (.inr r)
    ) (a, [])
noncomputable def markTextFS : Fsp := { fid := 52, ps := [⟨false, .base .int⟩], rs := [⟨false, .base .str⟩], ex := true, fn := fun x => markText x }
noncomputable def markStringS (a : List Str) (b : Int) : Option (List Str × Int) :=
  loopD (fun (x : List Str × Int × Int) =>
    bif (decide (x.2.1 < (x.1.length : Int))) then
      (markText x.2.2).bind fun t1 =>
      (idx x.1 x.2.1).bind fun _ =>
      (x.1[x.2.1.toNat]?).bind fun e2 =>
      (some (x.1.set x.2.1.toNat t1)).bind fun z3 =>
      some (.inl (z3, w64 (x.2.1 + 1), w64 (x.2.2 + 1)))
    else
      some (.inr (x.1, x.2.2))
  ) (a, 0, b)
noncomputable def markStringSMS : Msp := { fid := 80, sh := ⟨false, .list (.base .str)⟩, fn := fun x n => markStringS x n }
noncomputable def markOriginS (a : List GOrigin) (b : Int) : Option (List GOrigin × Int) :=
  loopD (fun (x : List GOrigin × Int × Int) =>
    bif (decide (x.2.1 < (x.1.length : Int))) then
      (idx x.1 x.2.1).bind fun _ =>
      (x.1[x.2.1.toNat]?).bind fun e1 =>
      (some (x.1.set x.2.1.toNat (GOrigin.mk x.2.2 e1.row))).bind fun z2 =>
      (idx z2 x.2.1).bind fun _ =>
      (z2[x.2.1.toNat]?).bind fun e3 =>
      (some (z2.set x.2.1.toNat (GOrigin.mk e3.cell (w64 (x.2.2 + 1))))).bind fun z4 =>
      some (.inl (z4, w64 (x.2.1 + 1), w64 ((w64 (x.2.2 + 1)) + 1)))
    else
      some (.inr (x.1, x.2.2))
  ) (a, 0, b)
noncomputable def markOriginSMS : Msp := { fid := 114, sh := ⟨false, .list (.base .origin)⟩, fn := fun x n => markOriginS x n }
noncomputable def markRowS (a : List GRow) (b : Int) : Option (List GRow × Int) :=
  loopD (fun (x : List GRow × Int × Int) =>
    bif (decide (x.2.1 < (x.1.length : Int))) then
      (idx x.1 x.2.1).bind fun _ =>
      (x.1[x.2.1.toNat]?).bind fun e1 =>
      (x.1[x.2.1.toNat]?).bind fun e2 =>
      (markIntS e2.cells x.2.2).bind fun r3 =>
      (some (x.1.set x.2.1.toNat (GRow.mk r3.1 e2.orig))).bind fun z4 =>
      (idx z4 x.2.1).bind fun _ =>
      (z4[x.2.1.toNat]?).bind fun e5 =>
      (z4[x.2.1.toNat]?).bind fun e6 =>
      (markOriginS e6.orig r3.2).bind fun r7 =>
      (some (z4.set x.2.1.toNat (GRow.mk e6.cells r7.1))).bind fun z8 =>
      some (.inl (z8, w64 (x.2.1 + 1), r7.2))
    else
      some (.inr (x.1, x.2.2))
  ) (a, 0, b)
noncomputable def markRowSMS : Msp := { fid := 81, sh := ⟨false, .list (.base .row)⟩, fn := fun x n => markRowS x n }
noncomputable def markValueSB (rmarkValueS : (List GVal) → Int → Option (List GVal × Int)) (a : List GVal) (b : Int) : Option (List GVal × Int) :=
  loopD (fun (x : List GVal × Int × Int) =>
    bif (decide (x.2.1 < (x.1.length : Int))) then
      (idx x.1 x.2.1).bind fun _ =>
      (x.1[x.2.1.toNat]?).bind fun e1 =>
      (some (x.1.set x.2.1.toNat (GVal.mk x.2.2 e1.n e1.step e1.text e1.list e1.columns e1.rows))).bind fun z2 =>
      (idx z2 x.2.1).bind fun _ =>
      (z2[x.2.1.toNat]?).bind fun e3 =>
      (some (z2.set x.2.1.toNat (GVal.mk e3.kind (w64 (x.2.2 + 1)) e3.step e3.text e3.list e3.columns e3.rows))).bind fun z4 =>
      (idx z4 x.2.1).bind fun _ =>
      (z4[x.2.1.toNat]?).bind fun e5 =>
      (some (z4.set x.2.1.toNat (GVal.mk e5.kind e5.n (w64 ((w64 (x.2.2 + 1)) + 1)) e5.text e5.list e5.columns e5.rows))).bind fun z6 =>
      (markText (w64 ((w64 ((w64 (x.2.2 + 1)) + 1)) + 1))).bind fun t7 =>
      (idx z6 x.2.1).bind fun _ =>
      (z6[x.2.1.toNat]?).bind fun e8 =>
      (some (z6.set x.2.1.toNat (GVal.mk e8.kind e8.n e8.step t7 e8.list e8.columns e8.rows))).bind fun z9 =>
      (idx z9 x.2.1).bind fun _ =>
      (z9[x.2.1.toNat]?).bind fun e10 =>
      (z9[x.2.1.toNat]?).bind fun e11 =>
      (rmarkValueS e11.list (w64 ((w64 ((w64 ((w64 (x.2.2 + 1)) + 1)) + 1)) + 1))).bind fun r12 =>
      (some (z9.set x.2.1.toNat (GVal.mk e11.kind e11.n e11.step e11.text r12.1 e11.columns e11.rows))).bind fun z13 =>
      (idx z13 x.2.1).bind fun _ =>
      (z13[x.2.1.toNat]?).bind fun e14 =>
      (z13[x.2.1.toNat]?).bind fun e15 =>
      (markStringS e15.columns r12.2).bind fun r16 =>
      (some (z13.set x.2.1.toNat (GVal.mk e15.kind e15.n e15.step e15.text e15.list r16.1 e15.rows))).bind fun z17 =>
      (idx z17 x.2.1).bind fun _ =>
      (z17[x.2.1.toNat]?).bind fun e18 =>
      (z17[x.2.1.toNat]?).bind fun e19 =>
      (markRowS e19.rows r16.2).bind fun r20 =>
      (some (z17.set x.2.1.toNat (GVal.mk e19.kind e19.n e19.step e19.text e19.list e19.columns r20.1))).bind fun z21 =>
      some (.inl (z21, w64 (x.2.1 + 1), r20.2))
    else
      some (.inr (x.1, x.2.2))
  ) (a, 0, b)
noncomputable def markValueSG : Nat → (List GVal) → Int → Option (List GVal × Int)
  | 0 => fun _ _ => none
  | n + 1 => markValueSB (markValueSG n)
noncomputable def markValueS (a : List GVal) (b : Int) : Option (List GVal × Int) := markValueSG (siz a + 1) a b
noncomputable def markValueSMSN (k : Nat) : Msp := { fid := 79, sh := ⟨false, .list (.base .val)⟩, fn := fun x n => markValueSG k x n }
noncomputable def markValueSMS : Msp := { fid := 79, sh := ⟨false, .list (.base .val)⟩, fn := fun x n => markValueS x n }
noncomputable def markReadS (a : List GRead) (b : Int) : Option (List GRead × Int) :=
  loopD (fun (x : List GRead × Int × Int) =>
    bif (decide (x.2.1 < (x.1.length : Int))) then
      (idx x.1 x.2.1).bind fun _ =>
      (x.1[x.2.1.toNat]?).bind fun e1 =>
      (some (x.1.set x.2.1.toNat (GRead.mk x.2.2 e1.n e1.time e1.text (reVal e1.result)))).bind fun z2 =>
      (idx z2 x.2.1).bind fun _ =>
      (z2[x.2.1.toNat]?).bind fun e3 =>
      (some (z2.set x.2.1.toNat (GRead.mk e3.kind (w64 (x.2.2 + 1)) e3.time e3.text (reVal e3.result)))).bind fun z4 =>
      (idx z4 x.2.1).bind fun _ =>
      (z4[x.2.1.toNat]?).bind fun e5 =>
      (some (z4.set x.2.1.toNat (GRead.mk e5.kind e5.n (w64 ((w64 (x.2.2 + 1)) + 1)) e5.text (reVal e5.result)))).bind fun z6 =>
      (markText (w64 ((w64 ((w64 (x.2.2 + 1)) + 1)) + 1))).bind fun t7 =>
      (idx z6 x.2.1).bind fun _ =>
      (z6[x.2.1.toNat]?).bind fun e8 =>
      (some (z6.set x.2.1.toNat (GRead.mk e8.kind e8.n e8.time t7 (reVal e8.result)))).bind fun z9 =>
      (idx z9 x.2.1).bind fun _ =>
      (z9[x.2.1.toNat]?).bind fun e10 =>
      (some (z9.set x.2.1.toNat (GRead.mk e10.kind e10.n e10.time e10.text (GVal.mk (w64 ((w64 ((w64 ((w64 (x.2.2 + 1)) + 1)) + 1)) + 1)) e10.result.n e10.result.step e10.result.text e10.result.list e10.result.columns e10.result.rows)))).bind fun z11 =>
      (idx z11 x.2.1).bind fun _ =>
      (z11[x.2.1.toNat]?).bind fun e12 =>
      (some (z11.set x.2.1.toNat (GRead.mk e12.kind e12.n e12.time e12.text (GVal.mk e12.result.kind (w64 ((w64 ((w64 ((w64 ((w64 (x.2.2 + 1)) + 1)) + 1)) + 1)) + 1)) e12.result.step e12.result.text e12.result.list e12.result.columns e12.result.rows)))).bind fun z13 =>
      (idx z13 x.2.1).bind fun _ =>
      (z13[x.2.1.toNat]?).bind fun e14 =>
      (some (z13.set x.2.1.toNat (GRead.mk e14.kind e14.n e14.time e14.text (GVal.mk e14.result.kind e14.result.n (w64 ((w64 ((w64 ((w64 ((w64 ((w64 (x.2.2 + 1)) + 1)) + 1)) + 1)) + 1)) + 1)) e14.result.text e14.result.list e14.result.columns e14.result.rows)))).bind fun z15 =>
      (markText (w64 ((w64 ((w64 ((w64 ((w64 ((w64 ((w64 (x.2.2 + 1)) + 1)) + 1)) + 1)) + 1)) + 1)) + 1))).bind fun t16 =>
      (idx z15 x.2.1).bind fun _ =>
      (z15[x.2.1.toNat]?).bind fun e17 =>
      (some (z15.set x.2.1.toNat (GRead.mk e17.kind e17.n e17.time e17.text (GVal.mk e17.result.kind e17.result.n e17.result.step t16 e17.result.list e17.result.columns e17.result.rows)))).bind fun z18 =>
      (idx z18 x.2.1).bind fun _ =>
      (z18[x.2.1.toNat]?).bind fun e19 =>
      (z18[x.2.1.toNat]?).bind fun e20 =>
      (markValueS e20.result.list (w64 ((w64 ((w64 ((w64 ((w64 ((w64 ((w64 ((w64 (x.2.2 + 1)) + 1)) + 1)) + 1)) + 1)) + 1)) + 1)) + 1))).bind fun r21 =>
      (some (z18.set x.2.1.toNat (GRead.mk e20.kind e20.n e20.time e20.text (GVal.mk e20.result.kind e20.result.n e20.result.step e20.result.text r21.1 e20.result.columns e20.result.rows)))).bind fun z22 =>
      (idx z22 x.2.1).bind fun _ =>
      (z22[x.2.1.toNat]?).bind fun e23 =>
      (z22[x.2.1.toNat]?).bind fun e24 =>
      (markStringS e24.result.columns r21.2).bind fun r25 =>
      (some (z22.set x.2.1.toNat (GRead.mk e24.kind e24.n e24.time e24.text (GVal.mk e24.result.kind e24.result.n e24.result.step e24.result.text e24.result.list r25.1 e24.result.rows)))).bind fun z26 =>
      (idx z26 x.2.1).bind fun _ =>
      (z26[x.2.1.toNat]?).bind fun e27 =>
      (z26[x.2.1.toNat]?).bind fun e28 =>
      (markRowS e28.result.rows r25.2).bind fun r29 =>
      (some (z26.set x.2.1.toNat (GRead.mk e28.kind e28.n e28.time e28.text (GVal.mk e28.result.kind e28.result.n e28.result.step e28.result.text e28.result.list e28.result.columns r29.1)))).bind fun z30 =>
      some (.inl (z30, w64 (x.2.1 + 1), r29.2))
    else
      some (.inr (x.1, x.2.2))
  ) (a, 0, b)
noncomputable def markReadSMS : Msp := { fid := 53, sh := ⟨false, .list (.base .read)⟩, fn := fun x n => markReadS x n }
noncomputable def markOpS (a : List GOp) (b : Int) : Option (List GOp × Int) :=
  loopD (fun (x : List GOp × Int × Int) =>
    bif (decide (x.2.1 < (x.1.length : Int))) then
      (idx x.1 x.2.1).bind fun _ =>
      (x.1[x.2.1.toNat]?).bind fun e1 =>
      (some (x.1.set x.2.1.toNat (GOp.mk x.2.2 e1.by_ e1.kind e1.seen e1.edit e1.src e1.dst e1.cell e1.version e1.reads))).bind fun z2 =>
      (idx z2 x.2.1).bind fun _ =>
      (z2[x.2.1.toNat]?).bind fun e3 =>
      (some (z2.set x.2.1.toNat (GOp.mk e3.time (w64 (x.2.2 + 1)) e3.kind e3.seen e3.edit e3.src e3.dst e3.cell e3.version e3.reads))).bind fun z4 =>
      (idx z4 x.2.1).bind fun _ =>
      (z4[x.2.1.toNat]?).bind fun e5 =>
      (some (z4.set x.2.1.toNat (GOp.mk e5.time e5.by_ (w64 ((w64 (x.2.2 + 1)) + 1)) e5.seen e5.edit e5.src e5.dst e5.cell e5.version e5.reads))).bind fun z6 =>
      (idx z6 x.2.1).bind fun _ =>
      (z6[x.2.1.toNat]?).bind fun e7 =>
      (z6[x.2.1.toNat]?).bind fun e8 =>
      (markIntS e8.seen (w64 ((w64 ((w64 (x.2.2 + 1)) + 1)) + 1))).bind fun r9 =>
      (some (z6.set x.2.1.toNat (GOp.mk e8.time e8.by_ e8.kind r9.1 e8.edit e8.src e8.dst e8.cell e8.version e8.reads))).bind fun z10 =>
      (idx z10 x.2.1).bind fun _ =>
      (z10[x.2.1.toNat]?).bind fun e11 =>
      (some (z10.set x.2.1.toNat (GOp.mk e11.time e11.by_ e11.kind e11.seen (GEdit.mk r9.2 e11.edit.pos e11.edit.cell) e11.src e11.dst e11.cell e11.version e11.reads))).bind fun z12 =>
      (idx z12 x.2.1).bind fun _ =>
      (z12[x.2.1.toNat]?).bind fun e13 =>
      (some (z12.set x.2.1.toNat (GOp.mk e13.time e13.by_ e13.kind e13.seen (GEdit.mk e13.edit.kind (w64 (r9.2 + 1)) e13.edit.cell) e13.src e13.dst e13.cell e13.version e13.reads))).bind fun z14 =>
      (idx z14 x.2.1).bind fun _ =>
      (z14[x.2.1.toNat]?).bind fun e15 =>
      (some (z14.set x.2.1.toNat (GOp.mk e15.time e15.by_ e15.kind e15.seen (GEdit.mk e15.edit.kind e15.edit.pos (GCell.mk (w64 ((w64 (r9.2 + 1)) + 1)) e15.edit.cell.version e15.edit.cell.kind e15.edit.cell.name e15.edit.cell.code e15.edit.cell.n)) e15.src e15.dst e15.cell e15.version e15.reads))).bind fun z16 =>
      (idx z16 x.2.1).bind fun _ =>
      (z16[x.2.1.toNat]?).bind fun e17 =>
      (some (z16.set x.2.1.toNat (GOp.mk e17.time e17.by_ e17.kind e17.seen (GEdit.mk e17.edit.kind e17.edit.pos (GCell.mk e17.edit.cell.id (w64 ((w64 ((w64 (r9.2 + 1)) + 1)) + 1)) e17.edit.cell.kind e17.edit.cell.name e17.edit.cell.code e17.edit.cell.n)) e17.src e17.dst e17.cell e17.version e17.reads))).bind fun z18 =>
      (idx z18 x.2.1).bind fun _ =>
      (z18[x.2.1.toNat]?).bind fun e19 =>
      (some (z18.set x.2.1.toNat (GOp.mk e19.time e19.by_ e19.kind e19.seen (GEdit.mk e19.edit.kind e19.edit.pos (GCell.mk e19.edit.cell.id e19.edit.cell.version (w64 ((w64 ((w64 ((w64 (r9.2 + 1)) + 1)) + 1)) + 1)) e19.edit.cell.name e19.edit.cell.code e19.edit.cell.n)) e19.src e19.dst e19.cell e19.version e19.reads))).bind fun z20 =>
      (markText (w64 ((w64 ((w64 ((w64 ((w64 (r9.2 + 1)) + 1)) + 1)) + 1)) + 1))).bind fun t21 =>
      (idx z20 x.2.1).bind fun _ =>
      (z20[x.2.1.toNat]?).bind fun e22 =>
      (some (z20.set x.2.1.toNat (GOp.mk e22.time e22.by_ e22.kind e22.seen (GEdit.mk e22.edit.kind e22.edit.pos (GCell.mk e22.edit.cell.id e22.edit.cell.version e22.edit.cell.kind t21 e22.edit.cell.code e22.edit.cell.n)) e22.src e22.dst e22.cell e22.version e22.reads))).bind fun z23 =>
      (markText (w64 ((w64 ((w64 ((w64 ((w64 ((w64 (r9.2 + 1)) + 1)) + 1)) + 1)) + 1)) + 1))).bind fun t24 =>
      (idx z23 x.2.1).bind fun _ =>
      (z23[x.2.1.toNat]?).bind fun e25 =>
      (some (z23.set x.2.1.toNat (GOp.mk e25.time e25.by_ e25.kind e25.seen (GEdit.mk e25.edit.kind e25.edit.pos (GCell.mk e25.edit.cell.id e25.edit.cell.version e25.edit.cell.kind e25.edit.cell.name t24 e25.edit.cell.n)) e25.src e25.dst e25.cell e25.version e25.reads))).bind fun z26 =>
      (idx z26 x.2.1).bind fun _ =>
      (z26[x.2.1.toNat]?).bind fun e27 =>
      (some (z26.set x.2.1.toNat (GOp.mk e27.time e27.by_ e27.kind e27.seen (GEdit.mk e27.edit.kind e27.edit.pos (GCell.mk e27.edit.cell.id e27.edit.cell.version e27.edit.cell.kind e27.edit.cell.name e27.edit.cell.code (w64 ((w64 ((w64 ((w64 ((w64 ((w64 ((w64 (r9.2 + 1)) + 1)) + 1)) + 1)) + 1)) + 1)) + 1)))) e27.src e27.dst e27.cell e27.version e27.reads))).bind fun z28 =>
      (markText (w64 ((w64 ((w64 ((w64 ((w64 ((w64 ((w64 ((w64 (r9.2 + 1)) + 1)) + 1)) + 1)) + 1)) + 1)) + 1)) + 1))).bind fun t29 =>
      (idx z28 x.2.1).bind fun _ =>
      (z28[x.2.1.toNat]?).bind fun e30 =>
      (some (z28.set x.2.1.toNat (GOp.mk e30.time e30.by_ e30.kind e30.seen e30.edit t29 e30.dst e30.cell e30.version e30.reads))).bind fun z31 =>
      (markText (w64 ((w64 ((w64 ((w64 ((w64 ((w64 ((w64 ((w64 ((w64 (r9.2 + 1)) + 1)) + 1)) + 1)) + 1)) + 1)) + 1)) + 1)) + 1))).bind fun t32 =>
      (idx z31 x.2.1).bind fun _ =>
      (z31[x.2.1.toNat]?).bind fun e33 =>
      (some (z31.set x.2.1.toNat (GOp.mk e33.time e33.by_ e33.kind e33.seen e33.edit e33.src t32 e33.cell e33.version e33.reads))).bind fun z34 =>
      (idx z34 x.2.1).bind fun _ =>
      (z34[x.2.1.toNat]?).bind fun e35 =>
      (some (z34.set x.2.1.toNat (GOp.mk e35.time e35.by_ e35.kind e35.seen e35.edit e35.src e35.dst (w64 ((w64 ((w64 ((w64 ((w64 ((w64 ((w64 ((w64 ((w64 ((w64 (r9.2 + 1)) + 1)) + 1)) + 1)) + 1)) + 1)) + 1)) + 1)) + 1)) + 1)) e35.version e35.reads))).bind fun z36 =>
      (idx z36 x.2.1).bind fun _ =>
      (z36[x.2.1.toNat]?).bind fun e37 =>
      (some (z36.set x.2.1.toNat (GOp.mk e37.time e37.by_ e37.kind e37.seen e37.edit e37.src e37.dst e37.cell (w64 ((w64 ((w64 ((w64 ((w64 ((w64 ((w64 ((w64 ((w64 ((w64 ((w64 (r9.2 + 1)) + 1)) + 1)) + 1)) + 1)) + 1)) + 1)) + 1)) + 1)) + 1)) + 1)) e37.reads))).bind fun z38 =>
      (idx z38 x.2.1).bind fun _ =>
      (z38[x.2.1.toNat]?).bind fun e39 =>
      (z38[x.2.1.toNat]?).bind fun e40 =>
      (markReadS e40.reads (w64 ((w64 ((w64 ((w64 ((w64 ((w64 ((w64 ((w64 ((w64 ((w64 ((w64 ((w64 (r9.2 + 1)) + 1)) + 1)) + 1)) + 1)) + 1)) + 1)) + 1)) + 1)) + 1)) + 1)) + 1))).bind fun r41 =>
      (some (z38.set x.2.1.toNat (GOp.mk e40.time e40.by_ e40.kind e40.seen e40.edit e40.src e40.dst e40.cell e40.version r41.1))).bind fun z42 =>
      some (.inl (z42, w64 (x.2.1 + 1), r41.2))
    else
      some (.inr (x.1, x.2.2))
  ) (a, 0, b)
noncomputable def markOpSMS : Msp := { fid := 27, sh := ⟨false, .list (.base .op)⟩, fn := fun x n => markOpS x n }
noncomputable def markReplica (a : GReplica) (b : Int) : Option (GReplica × Int) :=
  (markOpS a.ops b).bind fun r1 =>
  some (GReplica.mk a.id r1.1, r1.2)
noncomputable def markReplicaMS : Msp := { fid := 10, sh := ⟨true, .base .replica⟩, fn := fun x n => markReplica x n }
noncomputable def heldIntS (a : List Int) (b : Int) : Option (Int) :=
  loopD (fun (x1 : (List Int) × Int × Int) =>
    bif (decide (x1.2.2 < (x1.1.length : Int))) then
      (idx x1.1 x1.2.2).bind fun e2 =>
      bif (e2 != x1.2.1) then
        some (.inr ((-1)))
      else
        some (.inl (x1.1, w64 (x1.2.1 + 1), w64 (x1.2.2 + 1)))
    else
      some (.inr (x1.2.1))
  ) (a, b, 0)
noncomputable def heldIntSFS : Fsp := { fid := 54, ps := [⟨false, .list (.base .int)⟩, ⟨false, .base .int⟩], rs := [⟨false, .base .int⟩], ex := true, fn := fun x => heldIntS x.1 x.2 }
noncomputable def heldStringS (a : List Str) (b : Int) : Option (Int) :=
  loopD (fun (x1 : (List Str) × Int × Int) =>
    bif (decide (x1.2.2 < (x1.1.length : Int))) then
      (idx x1.1 x1.2.2).bind fun e2 =>
      (markText x1.2.1).bind fun r3 =>
      bif (!(e2 == r3)) then
        some (.inr ((-1)))
      else
        some (.inl (x1.1, w64 (x1.2.1 + 1), w64 (x1.2.2 + 1)))
    else
      some (.inr (x1.2.1))
  ) (a, b, 0)
noncomputable def heldStringSFS : Fsp := { fid := 83, ps := [⟨false, .list (.base .str)⟩, ⟨false, .base .int⟩], rs := [⟨false, .base .int⟩], ex := true, fn := fun x => heldStringS x.1 x.2 }
noncomputable def heldOriginS (a : List GOrigin) (b : Int) : Option (Int) :=
  loopD (fun (x1 : (List GOrigin) × Int × Int) =>
    bif (decide (x1.2.2 < (x1.1.length : Int))) then
      (idx x1.1 x1.2.2).bind fun e2 =>
      bif (e2.cell != x1.2.1) then
        some (.inr ((-1)))
      else
        (idx x1.1 x1.2.2).bind fun e3 =>
        bif (e3.row != (w64 (x1.2.1 + 1))) then
          some (.inr ((-1)))
        else
          some (.inl (x1.1, w64 ((w64 (x1.2.1 + 1)) + 1), w64 (x1.2.2 + 1)))
    else
      some (.inr (x1.2.1))
  ) (a, b, 0)
noncomputable def heldOriginSFS : Fsp := { fid := 115, ps := [⟨false, .list (.base .origin)⟩, ⟨false, .base .int⟩], rs := [⟨false, .base .int⟩], ex := true, fn := fun x => heldOriginS x.1 x.2 }
noncomputable def heldRowS (a : List GRow) (b : Int) : Option (Int) :=
  loopD (fun (x1 : (List GRow) × Int × Int) =>
    bif (decide (x1.2.2 < (x1.1.length : Int))) then
      (idx x1.1 x1.2.2).bind fun e2 =>
      (heldIntS e2.cells x1.2.1).bind fun r3 =>
      bif (decide (r3 < 0)) then
        some (.inr ((-1)))
      else
        (idx x1.1 x1.2.2).bind fun e4 =>
        (heldOriginS e4.orig r3).bind fun r5 =>
        bif (decide (r5 < 0)) then
          some (.inr ((-1)))
        else
          some (.inl (x1.1, r5, w64 (x1.2.2 + 1)))
    else
      some (.inr (x1.2.1))
  ) (a, b, 0)
noncomputable def heldRowSFS : Fsp := { fid := 84, ps := [⟨false, .list (.base .row)⟩, ⟨false, .base .int⟩], rs := [⟨false, .base .int⟩], ex := true, fn := fun x => heldRowS x.1 x.2 }
noncomputable def heldValueSB (rheldValueS : (List GVal) → Int → Option (Int)) (a : List GVal) (b : Int) : Option (Int) :=
  loopD (fun (x1 : (List GVal) × Int × Int) =>
    bif (decide (x1.2.2 < (x1.1.length : Int))) then
      (idx x1.1 x1.2.2).bind fun e2 =>
      bif (e2.kind != x1.2.1) then
        some (.inr ((-1)))
      else
      (idx x1.1 x1.2.2).bind fun e3 =>
      bif (e3.n != (w64 (x1.2.1 + 1))) then
        some (.inr ((-1)))
      else
      (idx x1.1 x1.2.2).bind fun e4 =>
      bif (e4.step != (w64 ((w64 (x1.2.1 + 1)) + 1))) then
        some (.inr ((-1)))
      else
      (idx x1.1 x1.2.2).bind fun e5 =>
      (markText (w64 ((w64 ((w64 (x1.2.1 + 1)) + 1)) + 1))).bind fun r6 =>
      bif (!(e5.text == r6)) then
        some (.inr ((-1)))
      else
      (idx x1.1 x1.2.2).bind fun e7 =>
      (rheldValueS e7.list (w64 ((w64 ((w64 ((w64 (x1.2.1 + 1)) + 1)) + 1)) + 1))).bind fun r8 =>
      bif (decide (r8 < 0)) then
        some (.inr ((-1)))
      else
      (idx x1.1 x1.2.2).bind fun e9 =>
      (heldStringS e9.columns r8).bind fun r10 =>
      bif (decide (r10 < 0)) then
        some (.inr ((-1)))
      else
        (idx x1.1 x1.2.2).bind fun e11 =>
        (heldRowS e11.rows r10).bind fun r12 =>
        bif (decide (r12 < 0)) then
          some (.inr ((-1)))
        else
          some (.inl (x1.1, r12, w64 (x1.2.2 + 1)))
    else
      some (.inr (x1.2.1))
  ) (a, b, 0)
noncomputable def heldValueSG : Nat → ((List GVal) → Int → Option (Int))
  | 0 => fun _ _ => none
  | n + 1 => heldValueSB (heldValueSG n)
noncomputable def heldValueS (a : List GVal) (b : Int) : Option (Int) := (heldValueSG (siz a + 1)) a b
noncomputable def heldValueSFS : Fsp := { fid := 82, ps := [⟨false, .list (.base .val)⟩, ⟨false, .base .int⟩], rs := [⟨false, .base .int⟩], ex := true, fn := fun x => heldValueS x.1 x.2 }
noncomputable def heldValueSFSN (n : Nat) : Fsp := { fid := 82, ps := [⟨false, .list (.base .val)⟩, ⟨false, .base .int⟩], rs := [⟨false, .base .int⟩], ex := true, fn := fun x => (heldValueSG n) x.1 x.2 }
noncomputable def heldReadS (a : List GRead) (b : Int) : Option (Int) :=
  loopD (fun (x1 : (List GRead) × Int × Int) =>
    bif (decide (x1.2.2 < (x1.1.length : Int))) then
      (idx x1.1 x1.2.2).bind fun e2 =>
      bif (e2.kind != x1.2.1) then
        some (.inr ((-1)))
      else
      (idx x1.1 x1.2.2).bind fun e3 =>
      bif (e3.n != (w64 (x1.2.1 + 1))) then
        some (.inr ((-1)))
      else
      (idx x1.1 x1.2.2).bind fun e4 =>
      bif (e4.time != (w64 ((w64 (x1.2.1 + 1)) + 1))) then
        some (.inr ((-1)))
      else
      (idx x1.1 x1.2.2).bind fun e5 =>
      (markText (w64 ((w64 ((w64 (x1.2.1 + 1)) + 1)) + 1))).bind fun r6 =>
      bif (!(e5.text == r6)) then
        some (.inr ((-1)))
      else
      (idx x1.1 x1.2.2).bind fun e7 =>
      bif (e7.result.kind != (w64 ((w64 ((w64 ((w64 (x1.2.1 + 1)) + 1)) + 1)) + 1))) then
        some (.inr ((-1)))
      else
      (idx x1.1 x1.2.2).bind fun e8 =>
      bif (e8.result.n != (w64 ((w64 ((w64 ((w64 ((w64 (x1.2.1 + 1)) + 1)) + 1)) + 1)) + 1))) then
        some (.inr ((-1)))
      else
      (idx x1.1 x1.2.2).bind fun e9 =>
      bif (e9.result.step != (w64 ((w64 ((w64 ((w64 ((w64 ((w64 (x1.2.1 + 1)) + 1)) + 1)) + 1)) + 1)) + 1))) then
        some (.inr ((-1)))
      else
      (idx x1.1 x1.2.2).bind fun e10 =>
      (markText (w64 ((w64 ((w64 ((w64 ((w64 ((w64 ((w64 (x1.2.1 + 1)) + 1)) + 1)) + 1)) + 1)) + 1)) + 1))).bind fun r11 =>
      bif (!(e10.result.text == r11)) then
        some (.inr ((-1)))
      else
      (idx x1.1 x1.2.2).bind fun e12 =>
      (heldValueS e12.result.list (w64 ((w64 ((w64 ((w64 ((w64 ((w64 ((w64 ((w64 (x1.2.1 + 1)) + 1)) + 1)) + 1)) + 1)) + 1)) + 1)) + 1))).bind fun r13 =>
      bif (decide (r13 < 0)) then
        some (.inr ((-1)))
      else
      (idx x1.1 x1.2.2).bind fun e14 =>
      (heldStringS e14.result.columns r13).bind fun r15 =>
      bif (decide (r15 < 0)) then
        some (.inr ((-1)))
      else
        (idx x1.1 x1.2.2).bind fun e16 =>
        (heldRowS e16.result.rows r15).bind fun r17 =>
        bif (decide (r17 < 0)) then
          some (.inr ((-1)))
        else
          some (.inl (x1.1, r17, w64 (x1.2.2 + 1)))
    else
      some (.inr (x1.2.1))
  ) (a, b, 0)
noncomputable def heldReadSFS : Fsp := { fid := 55, ps := [⟨false, .list (.base .read)⟩, ⟨false, .base .int⟩], rs := [⟨false, .base .int⟩], ex := true, fn := fun x => heldReadS x.1 x.2 }
noncomputable def heldOpS (a : List GOp) (b : Int) : Option (Int) :=
  loopD (fun (x1 : (List GOp) × Int × Int) =>
    bif (decide (x1.2.2 < (x1.1.length : Int))) then
      (idx x1.1 x1.2.2).bind fun e2 =>
      bif (e2.time != x1.2.1) then
        some (.inr ((-1)))
      else
      (idx x1.1 x1.2.2).bind fun e3 =>
      bif (e3.by_ != (w64 (x1.2.1 + 1))) then
        some (.inr ((-1)))
      else
      (idx x1.1 x1.2.2).bind fun e4 =>
      bif (e4.kind != (w64 ((w64 (x1.2.1 + 1)) + 1))) then
        some (.inr ((-1)))
      else
      (idx x1.1 x1.2.2).bind fun e5 =>
      (heldIntS e5.seen (w64 ((w64 ((w64 (x1.2.1 + 1)) + 1)) + 1))).bind fun r6 =>
      bif (decide (r6 < 0)) then
        some (.inr ((-1)))
      else
      (idx x1.1 x1.2.2).bind fun e7 =>
      bif (e7.edit.kind != r6) then
        some (.inr ((-1)))
      else
      (idx x1.1 x1.2.2).bind fun e8 =>
      bif (e8.edit.pos != (w64 (r6 + 1))) then
        some (.inr ((-1)))
      else
      (idx x1.1 x1.2.2).bind fun e9 =>
      bif (e9.edit.cell.id != (w64 ((w64 (r6 + 1)) + 1))) then
        some (.inr ((-1)))
      else
      (idx x1.1 x1.2.2).bind fun e10 =>
      bif (e10.edit.cell.version != (w64 ((w64 ((w64 (r6 + 1)) + 1)) + 1))) then
        some (.inr ((-1)))
      else
      (idx x1.1 x1.2.2).bind fun e11 =>
      bif (e11.edit.cell.kind != (w64 ((w64 ((w64 ((w64 (r6 + 1)) + 1)) + 1)) + 1))) then
        some (.inr ((-1)))
      else
      (idx x1.1 x1.2.2).bind fun e12 =>
      (markText (w64 ((w64 ((w64 ((w64 ((w64 (r6 + 1)) + 1)) + 1)) + 1)) + 1))).bind fun r13 =>
      bif (!(e12.edit.cell.name == r13)) then
        some (.inr ((-1)))
      else
      (idx x1.1 x1.2.2).bind fun e14 =>
      (markText (w64 ((w64 ((w64 ((w64 ((w64 ((w64 (r6 + 1)) + 1)) + 1)) + 1)) + 1)) + 1))).bind fun r15 =>
      bif (!(e14.edit.cell.code == r15)) then
        some (.inr ((-1)))
      else
      (idx x1.1 x1.2.2).bind fun e16 =>
      bif (e16.edit.cell.n != (w64 ((w64 ((w64 ((w64 ((w64 ((w64 ((w64 (r6 + 1)) + 1)) + 1)) + 1)) + 1)) + 1)) + 1))) then
        some (.inr ((-1)))
      else
      (idx x1.1 x1.2.2).bind fun e17 =>
      (markText (w64 ((w64 ((w64 ((w64 ((w64 ((w64 ((w64 ((w64 (r6 + 1)) + 1)) + 1)) + 1)) + 1)) + 1)) + 1)) + 1))).bind fun r18 =>
      bif (!(e17.src == r18)) then
        some (.inr ((-1)))
      else
      (idx x1.1 x1.2.2).bind fun e19 =>
      (markText (w64 ((w64 ((w64 ((w64 ((w64 ((w64 ((w64 ((w64 ((w64 (r6 + 1)) + 1)) + 1)) + 1)) + 1)) + 1)) + 1)) + 1)) + 1))).bind fun r20 =>
      bif (!(e19.dst == r20)) then
        some (.inr ((-1)))
      else
      (idx x1.1 x1.2.2).bind fun e21 =>
      bif (e21.cell != (w64 ((w64 ((w64 ((w64 ((w64 ((w64 ((w64 ((w64 ((w64 ((w64 (r6 + 1)) + 1)) + 1)) + 1)) + 1)) + 1)) + 1)) + 1)) + 1)) + 1))) then
        some (.inr ((-1)))
      else
      (idx x1.1 x1.2.2).bind fun e22 =>
      bif (e22.version != (w64 ((w64 ((w64 ((w64 ((w64 ((w64 ((w64 ((w64 ((w64 ((w64 ((w64 (r6 + 1)) + 1)) + 1)) + 1)) + 1)) + 1)) + 1)) + 1)) + 1)) + 1)) + 1))) then
        some (.inr ((-1)))
      else
        (idx x1.1 x1.2.2).bind fun e23 =>
        (heldReadS e23.reads (w64 ((w64 ((w64 ((w64 ((w64 ((w64 ((w64 ((w64 ((w64 ((w64 ((w64 ((w64 (r6 + 1)) + 1)) + 1)) + 1)) + 1)) + 1)) + 1)) + 1)) + 1)) + 1)) + 1)) + 1))).bind fun r24 =>
        bif (decide (r24 < 0)) then
          some (.inr ((-1)))
        else
          some (.inl (x1.1, r24, w64 (x1.2.2 + 1)))
    else
      some (.inr (x1.2.1))
  ) (a, b, 0)
noncomputable def heldOpSFS : Fsp := { fid := 28, ps := [⟨false, .list (.base .op)⟩, ⟨false, .base .int⟩], rs := [⟨false, .base .int⟩], ex := true, fn := fun x => heldOpS x.1 x.2 }
noncomputable def heldReplica (a : GReplica) (b : Int) : Option (Int) :=
  (heldOpS a.ops b).bind fun r1 =>
  bif (decide (r1 < 0)) then
    some ((-1))
  else
    some (r1)
noncomputable def heldReplicaFS : Fsp := { fid := 11, ps := [⟨true, .base .replica⟩, ⟨false, .base .int⟩], rs := [⟨false, .base .int⟩], ex := true, fn := fun x => heldReplica x.1 x.2 }
noncomputable def FnExactPull (a : GReplica) (b : GReplica) : Option (Bool) :=
  (szReplica a 1048576).bind fun r1 =>
  bif (decide (r1 < 0)) then
    some (true)
  else
  (szReplica b r1).bind fun r2 =>
  bif (decide (r2 < 0)) then
    some (true)
  else
  (toReplica a).bind fun r3 =>
  (toReplica b).bind fun r4 =>
  (sPull r3 r4).bind fun r5 =>
  (toReplica a).bind fun r6 =>
  (toReplica b).bind fun r7 =>
  (iPull r6 r7).bind fun r8 =>
  (eqReplica r8.1 r5.1).bind fun r9 =>
  bif (!r9) then
    some (false)
  else
  bif (!(r8.2 == r5.2)) then
    some (false)
  else
  (toReplica a).bind fun r10 =>
  (eqReplica r6 r10).bind fun r11 =>
  bif (!r11) then
    some (false)
  else
  (toReplica b).bind fun r12 =>
  (eqReplica r7 r12).bind fun r13 =>
  bif (!r13) then
    some (false)
  else
  (markReplica r6 1).bind fun r14 =>
  (markReplica r7 r14.2).bind fun r15 =>
  bif (decide (r15.2 < 0)) then
    some (false)
  else
  (eqReplica r8.1 r5.1).bind fun r16 =>
  bif (!r16) then
    some (false)
  else
  bif (!(r8.2 == r5.2)) then
    some (false)
  else
  (markReplica r8.1 1).bind fun r17 =>
  (heldReplica (GReplica.mk r8.1.id r17.1.ops) 1).bind fun r18 =>
  bif (decide (r18 < 0)) then
    some (false)
  else
  bif (r18 != r17.2) then
    some (false)
  else
  (toReplica a).bind fun r19 =>
  (toReplica b).bind fun r20 =>
  (iPull r19 r20).bind fun r21 =>
  (eqReplica r21.1 r5.1).bind fun r22 =>
  bif (!r22) then
    some (false)
  else
  bif (!(r21.2 == r5.2)) then
    some (false)
  else
    (heldReplica (GReplica.mk r8.1.id r17.1.ops) 1).bind fun r23 =>
    bif (decide (r23 < 0)) then
      some (false)
    else
      bif (r23 != r17.2) then
        some (false)
      else
        some (true)
noncomputable def FnExactPullFS : Fsp := { fid := 3, ps := [⟨true, .base .replica⟩, ⟨true, .base .replica⟩], rs := [⟨false, .base .bool⟩], ex := true, fn := fun x => FnExactPull x.1 x.2 }
noncomputable def big (a : List Int) : Option (Bool) :=
  some ((decide ((a.length : Int) > 1048576)))
noncomputable def bigFS : Fsp := { fid := 12, ps := [⟨false, .list (.base .u8)⟩], rs := [⟨false, .base .bool⟩], ex := true, fn := fun x => big x }
noncomputable def sL1New (a : List Int) : Option (GCur) :=
  loopD (fun (x1 : (List Int) × Int × Int) =>
    bif (decide (x1.2.2 < (x1.1.length : Int))) then
      bif (decide (x1.2.2 < 4000)) then
        (idx x1.1 x1.2.2).bind fun e2 =>
        some (.inl (x1.1, w64 (((BitVec.ofInt 64 (w64 ((w64 ((w64 (x1.2.1 * 131)) + (w64 (e2)))) + 7)) &&& BitVec.ofInt 64 1073741823).toNat : Int)), w64 (x1.2.2 + 1)))
      else
        some (.inr (GCur.mk x1.1 0 x1.2.1))
    else
      some (.inr (GCur.mk x1.1 0 x1.2.1))
  ) (a, w64 (26583 + (a.length : Int)), 0)
noncomputable def sL1NewFS : Fsp := { fid := 29, ps := [⟨false, .list (.base .u8)⟩], rs := [⟨true, .base .cur⟩], ex := false, fn := fun x => sL1New x }
noncomputable def sL1Byte (a : GCur) : Option (GCur × Int) :=
  bif (decide (a.i < (a.b.length : Int))) then
    (idx a.b a.i).bind fun e1 =>
    some (GCur.mk a.b (w64 (a.i + 1)) (w64 ((w64 (a.h * 6364136223846793005)) + 1442695040888963407)), w64 (((BitVec.ofInt 64 (w64 ((w64 (((BitVec.ofInt 64 (w64 (((BitVec.ofInt 64 ((w64 ((w64 (a.h * 6364136223846793005)) + 1442695040888963407)).fdiv (2 ^ 33)) ^^^ BitVec.ofInt 64 ((w64 ((w64 (a.h * 6364136223846793005)) + 1442695040888963407)).fdiv (2 ^ 45))).toNat : Int))) &&& BitVec.ofInt 64 255).toNat : Int))) + (w64 (e1)))) &&& BitVec.ofInt 64 255).toNat : Int)))
  else
    some (GCur.mk a.b a.i (w64 ((w64 (a.h * 6364136223846793005)) + 1442695040888963407)), w64 (((BitVec.ofInt 64 (w64 (((BitVec.ofInt 64 ((w64 ((w64 (a.h * 6364136223846793005)) + 1442695040888963407)).fdiv (2 ^ 33)) ^^^ BitVec.ofInt 64 ((w64 ((w64 (a.h * 6364136223846793005)) + 1442695040888963407)).fdiv (2 ^ 45))).toNat : Int))) &&& BitVec.ofInt 64 255).toNat : Int)))
noncomputable def sL1ByteFS : Fsp := { fid := 85, ps := [⟨true, .base .cur⟩], rs := [⟨true, .base .cur⟩, ⟨false, .base .int⟩], ex := false, fn := fun x => sL1Byte x }
noncomputable def sL1Below (a : GCur) (b : Int) : Option (GCur × Int) :=
  bif (decide (b ≤ 0)) then
    some (a, 0)
  else
  bif (decide (b ≤ 256)) then
    (sL1Byte a).bind fun r1 =>
    (remI r1.2 b).bind fun q2 =>
    some (r1.1, q2)
  else
    (sL1Byte a).bind fun r3 =>
    (sL1Byte r3.1).bind fun r4 =>
    (sL1Byte r4.1).bind fun r5 =>
    (sL1Byte r5.1).bind fun r6 =>
    (remI (w64 ((w64 ((w64 ((w64 (r3.2 * 16777216)) + (w64 (r4.2 * 65536)))) + (w64 (r5.2 * 256)))) + r6.2)) b).bind fun q7 =>
    some (r6.1, q7)
noncomputable def sL1BelowFS : Fsp := { fid := 57, ps := [⟨true, .base .cur⟩, ⟨false, .base .int⟩], rs := [⟨true, .base .cur⟩, ⟨false, .base .int⟩], ex := false, fn := fun x => sL1Below x.1 x.2 }
noncomputable def sL1Once (a : GCur) (b : Int) : Option (GCur × Bool) :=
  (sL1Below a b).bind fun r1 =>
  some (r1.1, (r1.2 == 0))
noncomputable def sL1OnceFS : Fsp := { fid := 40, ps := [⟨true, .base .cur⟩, ⟨false, .base .int⟩], rs := [⟨true, .base .cur⟩, ⟨false, .base .bool⟩], ex := false, fn := fun x => sL1Once x.1 x.2 }
noncomputable def sNewReplica (a : Int) : Option (GReplica × Bool) :=
  (sL1In a 0 2).bind fun r1 =>
  bif (!r1) then
    some (GReplica.mk 0 [], false)
  else
    some (GReplica.mk a [], true)
noncomputable def sNewReplicaFS : Fsp := { fid := 56, ps := [⟨false, .base .int⟩], rs := [⟨true, .base .replica⟩, ⟨false, .base .bool⟩], ex := true, fn := fun x => sNewReplica x }
noncomputable def sL1Max (a : Int) (b : Int) : Option (Int) :=
  bif (decide (a > b)) then
    some (a)
  else
    some (b)
noncomputable def sL1MaxFS : Fsp := { fid := 116, ps := [⟨false, .base .int⟩, ⟨false, .base .int⟩], rs := [⟨false, .base .int⟩], ex := true, fn := fun x => sL1Max x.1 x.2 }
noncomputable def sLastTime (a : List GOp) : Option (Int) :=
  loopD (fun (x1 : (List GOp) × Int × Int) =>
    bif (decide (x1.2.2 < (x1.1.length : Int))) then
      (idx x1.1 x1.2.2).bind fun e2 =>
      (sL1Max x1.2.1 e2.time).bind fun r3 =>
      some (.inl (x1.1, r3, w64 (x1.2.2 + 1)))
    else
      some (.inr (x1.2.1))
  ) (a, 0, 0)
noncomputable def sLastTimeFS : Fsp := { fid := 86, ps := [⟨false, .list (.base .op)⟩], rs := [⟨false, .base .int⟩], ex := true, fn := fun x => sLastTime x }
noncomputable def sCountBy (a : List GOp) (b : Int) : Option (Int) :=
  loopD (fun (x1 : (List GOp) × Int × Int × Int) =>
    bif (decide (x1.2.2.2 < (x1.1.length : Int))) then
      (idx x1.1 x1.2.2.2).bind fun e2 =>
      bif (e2.by_ == x1.2.1) then
        some (.inl (x1.1, x1.2.1, w64 (x1.2.2.1 + 1), w64 (x1.2.2.2 + 1)))
      else
        some (.inl (x1.1, x1.2.1, x1.2.2.1, w64 (x1.2.2.2 + 1)))
    else
      some (.inr (x1.2.2.1))
  ) (a, b, 0, 0)
noncomputable def sCountByFS : Fsp := { fid := 89, ps := [⟨false, .list (.base .op)⟩, ⟨false, .base .int⟩], rs := [⟨false, .base .int⟩], ex := true, fn := fun x => sCountBy x.1 x.2 }
noncomputable def sSeenBy (a : GReplica) : Option ((List Int)) :=
  loopD (fun (x1 : Int × (List GOp) × (List Int) × Int) =>
    bif (decide (x1.2.2.2 < 3)) then
      (sCountBy x1.2.1 x1.2.2.2).bind fun r2 =>
      (gd (x1.2.2.1.length + [r2].length)).bind fun _ =>
      some (.inl (x1.1, x1.2.1, x1.2.2.1 ++ [r2], w64 (x1.2.2.2 + 1)))
    else
      some (.inr (x1.2.2.1))
  ) (a.id, a.ops, [], 0)
noncomputable def sSeenByFS : Fsp := { fid := 87, ps := [⟨true, .base .replica⟩], rs := [⟨false, .list (.base .int)⟩], ex := true, fn := fun x => sSeenBy x }
noncomputable def sAddOp (a : GReplica) (b : GOp) : Option (GReplica × Bool) :=
  (sL41Copy b).bind fun r1 =>
  (sLastTime a.ops).bind fun r2 =>
  (sSeenBy a).bind fun r3 =>
  (sL43Copy a).bind fun r4 =>
  (gd (r4.ops.length + [GOp.mk (w64 (r2 + 1)) a.id r1.kind r3 r1.edit r1.src r1.dst r1.cell r1.version r1.reads].length)).bind fun _ =>
  (sIsValidReplica a).bind fun r5 =>
  bif (!r5) then
    (sL43Copy a).bind fun r6 =>
    some (r6, false)
  else
    (sIsValidReplica (GReplica.mk r4.id (r4.ops ++ [GOp.mk (w64 (r2 + 1)) a.id r1.kind r3 r1.edit r1.src r1.dst r1.cell r1.version r1.reads]))).bind fun r7 =>
    bif (!r7) then
      (sL43Copy a).bind fun r8 =>
      some (r8, false)
    else
      some (GReplica.mk r4.id (r4.ops ++ [GOp.mk (w64 (r2 + 1)) a.id r1.kind r3 r1.edit r1.src r1.dst r1.cell r1.version r1.reads]), true)
noncomputable def sAddOpFS : Fsp := { fid := 58, ps := [⟨true, .base .replica⟩, ⟨true, .base .op⟩], rs := [⟨true, .base .replica⟩, ⟨false, .base .bool⟩], ex := true, fn := fun x => sAddOp x.1 x.2 }
noncomputable def sL1PickInt (a : GCur) (b : List Int) : Option (GCur × Int) :=
  (sL1Below a (b.length : Int)).bind fun r1 =>
  (idx b r1.2).bind fun e2 =>
  some (r1.1, e2)
noncomputable def sL1PickIntFS : Fsp := { fid := 107, ps := [⟨true, .base .cur⟩, ⟨false, .list (.base .int)⟩], rs := [⟨true, .base .cur⟩, ⟨false, .base .int⟩], ex := false, fn := fun x => sL1PickInt x.1 x.2 }
noncomputable def sL1Pick (a : GCur) (b : List Str) : Option (GCur × Str) :=
  (sL1Below a (b.length : Int)).bind fun r1 =>
  (idx b r1.2).bind fun e2 =>
  some (r1.1, e2)
noncomputable def sL1PickFS : Fsp := { fid := 90, ps := [⟨true, .base .cur⟩, ⟨false, .list (.base .str)⟩], rs := [⟨true, .base .cur⟩, ⟨false, .base .str⟩], ex := false, fn := fun x => sL1Pick x.1 x.2 }
noncomputable def sFormatInt (a : Int) : Option (Str) :=
  bif (a == 0) then
    some ([48])
  else
  loopD (fun (x1 : Int × Bool × Str) =>
    bif (x1.1 != 0) then
      bif (decide ((x1.1.tmod 10) < 0)) then
        (gd ((bytesOf [w8 (w64 (48 + (w64 (0 - (x1.1.tmod 10)))))]).length + x1.2.2.length)).bind fun _ =>
        some (.inl (w64 (x1.1.tdiv 10), x1.2.1, (bytesOf [w8 (w64 (48 + (w64 (0 - (x1.1.tmod 10)))))]) ++ x1.2.2))
      else
        (gd ((bytesOf [w8 (w64 (48 + (x1.1.tmod 10)))]).length + x1.2.2.length)).bind fun _ =>
        some (.inl (w64 (x1.1.tdiv 10), x1.2.1, (bytesOf [w8 (w64 (48 + (x1.1.tmod 10)))]) ++ x1.2.2))
    else
      (
        bif x1.2.1 then
          (gd ([45].length + x1.2.2.length)).bind fun _ =>
          some ([45] ++ x1.2.2)
        else
          some (x1.2.2)
      ).bind fun r => some (.inr r)
  ) (a, (decide (a < 0)), [])
noncomputable def sFormatIntFS : Fsp := { fid := 130, ps := [⟨false, .base .int⟩], rs := [⟨false, .base .str⟩], ex := true, fn := fun x => sFormatInt x }
noncomputable def sL10Num (a : Int) : Option (GExpr) :=
  some (GExpr.mk 1 a [] [])
noncomputable def sL10NumFS : Fsp := { fid := 154, ps := [⟨false, .base .int⟩], rs := [⟨true, .base .expr⟩], ex := true, fn := fun x => sL10Num x }
noncomputable def sL10Name (a : Str) : Option (GExpr) :=
  some (GExpr.mk 3 0 a [])
noncomputable def sL10NameFS : Fsp := { fid := 162, ps := [⟨false, .base .str⟩], rs := [⟨true, .base .expr⟩], ex := true, fn := fun x => sL10Name x }
noncomputable def sL10Leaf (a : GCur) (b : List Str) : Option (GCur × GExpr) :=
  (sL1Below a 5).bind fun r1 =>
  bif (r1.2 == 0) then
    (sL1Pick r1.1 ([[97], [97, 98], [], [98]] : List Str)).bind fun r2 =>
    some (r2.1, GExpr.mk 2 0 r2.2 [])
  else
  bif (r1.2 == 1) then
    (sL1Below r1.1 6).bind fun r3 =>
    (sL10Num r3.2).bind fun r4 =>
    some (r3.1, reExpr r4)
  else
    bif (r1.2 == 2) then
      (sL1Below r1.1 6).bind fun r5 =>
      (sL10Num r5.2).bind fun r6 =>
      some (r5.1, reExpr r6)
    else
      (sL1Pick r1.1 b).bind fun r7 =>
      (sL10Name r7.2).bind fun r8 =>
      some (r7.1, reExpr r8)
noncomputable def sL10LeafFS : Fsp := { fid := 149, ps := [⟨true, .base .cur⟩, ⟨false, .list (.base .str)⟩], rs := [⟨true, .base .cur⟩, ⟨true, .base .expr⟩], ex := false, sh := true, fn := fun x => sL10Leaf x.1 x.2 }
noncomputable def sL10Op (a : Int) (b : GExpr) (c : GExpr) : Option (GExpr) :=
  some (GExpr.mk 6 a [] [reExpr b, reExpr c])
noncomputable def sL10OpFS : Fsp := { fid := 150, ps := [⟨false, .base .int⟩, ⟨true, .base .expr⟩, ⟨true, .base .expr⟩], rs := [⟨true, .base .expr⟩], ex := false, sh := true, fn := fun x => sL10Op x.1 x.2.1 x.2.2 }
noncomputable def sL10List (a : GCur) (b : List Str) : Option (GCur × GExpr) :=
  (sL1Below a 4).bind fun r1 =>
  loopD (fun (x2 : (List Int) × Int × Int × (List Str) × Int × Int × Str × (List GExpr) × Int × Int × Str × (List GExpr) × Int × Int) =>
    bif (decide (x2.2.2.2.2.2.2.2.2.2.2.2.2.2 < x2.2.2.2.2.2.2.2.2.2.2.2.2.1)) then
      (sL1Below (GCur.mk x2.1 x2.2.1 x2.2.2.1) 5).bind fun r3 =>
      (sL10Num r3.2).bind fun r4 =>
      (gd (x2.2.2.2.2.2.2.2.2.2.2.2.1.length + [reExpr r4].length)).bind fun _ =>
      (sL1Once r3.1 4).bind fun r5 =>
      bif r5.2 then
        (sL10Leaf r5.1 x2.2.2.2.1).bind fun r6 =>
        (idx (x2.2.2.2.2.2.2.2.2.2.2.2.1 ++ [reExpr r4]) x2.2.2.2.2.2.2.2.2.2.2.2.2.2).bind fun _ =>
        ((x2.2.2.2.2.2.2.2.2.2.2.2.1 ++ [reExpr r4])[x2.2.2.2.2.2.2.2.2.2.2.2.2.2.toNat]?).bind fun e8 =>
        some (.inl (r6.1.b, r6.1.i, r6.1.h, x2.2.2.2.1, x2.2.2.2.2.1, x2.2.2.2.2.2.1, x2.2.2.2.2.2.2.1, x2.2.2.2.2.2.2.2.1, x2.2.2.2.2.2.2.2.2.1, x2.2.2.2.2.2.2.2.2.2.1, x2.2.2.2.2.2.2.2.2.2.2.1, (x2.2.2.2.2.2.2.2.2.2.2.2.1 ++ [reExpr r4]).set x2.2.2.2.2.2.2.2.2.2.2.2.2.2.toNat (reExpr r6.2), x2.2.2.2.2.2.2.2.2.2.2.2.2.1, w64 (x2.2.2.2.2.2.2.2.2.2.2.2.2.2 + 1)))
      else
        some (.inl (r5.1.b, r5.1.i, r5.1.h, x2.2.2.2.1, x2.2.2.2.2.1, x2.2.2.2.2.2.1, x2.2.2.2.2.2.2.1, x2.2.2.2.2.2.2.2.1, x2.2.2.2.2.2.2.2.2.1, x2.2.2.2.2.2.2.2.2.2.1, x2.2.2.2.2.2.2.2.2.2.2.1, x2.2.2.2.2.2.2.2.2.2.2.2.1 ++ [reExpr r4], x2.2.2.2.2.2.2.2.2.2.2.2.2.1, w64 (x2.2.2.2.2.2.2.2.2.2.2.2.2.2 + 1)))
    else
      some (.inr (GCur.mk x2.1 x2.2.1 x2.2.2.1, GExpr.mk x2.2.2.2.2.2.2.2.2.1 x2.2.2.2.2.2.2.2.2.2.1 x2.2.2.2.2.2.2.2.2.2.2.1 x2.2.2.2.2.2.2.2.2.2.2.2.1))
  ) (r1.1.b, r1.1.i, r1.1.h, b, 0, 0, [], [], 4, 0, [], [], r1.2, 0)
noncomputable def sL10ListFS : Fsp := { fid := 151, ps := [⟨true, .base .cur⟩, ⟨false, .list (.base .str)⟩], rs := [⟨true, .base .cur⟩, ⟨true, .base .expr⟩], ex := false, sh := true, fn := fun x => sL10List x.1 x.2 }
noncomputable def sL10Call (a : Str) (b : List GExpr) : Option (GExpr) :=
  some (GExpr.mk 5 0 a b)
noncomputable def sL10CallFS : Fsp := { fid := 152, ps := [⟨false, .base .str⟩, ⟨false, .list (.base .expr)⟩], rs := [⟨true, .base .expr⟩], ex := false, fn := fun x => sL10Call x.1 x.2 }
noncomputable def sL1PickExpr (a : GCur) (b : GExpr) (c : GExpr) : Option (GCur × GExpr) :=
  (sL1Once a 2).bind fun r1 =>
  bif r1.2 then
    some (r1.1, reExpr b)
  else
    some (r1.1, reExpr c)
noncomputable def sL1PickExprFS : Fsp := { fid := 153, ps := [⟨true, .base .cur⟩, ⟨true, .base .expr⟩, ⟨true, .base .expr⟩], rs := [⟨true, .base .cur⟩, ⟨true, .base .expr⟩], ex := false, fn := fun x => sL1PickExpr x.1 x.2.1 x.2.2 }
noncomputable def sL10Column (a : GCur) : Option (GCur × GExpr) :=
  (sL1Pick a ([[97], [97], [98], [99], [120]] : List Str)).bind fun r1 =>
  some (r1.1, GExpr.mk 2 0 r1.2 [])
noncomputable def sL10ColumnFS : Fsp := { fid := 155, ps := [⟨true, .base .cur⟩], rs := [⟨true, .base .cur⟩, ⟨true, .base .expr⟩], ex := false, sh := true, fn := fun x => sL10Column x }
noncomputable def sL10Table (a : GCur) : Option (GCur × GExpr) :=
  (sL1Below a 4).bind fun r1 =>
  loopD (fun (x2 : (List Int) × Int × Int × Int × Int × Str × (List GExpr) × Int × Int × Str × (List GExpr) × Int × Int) =>
    bif (decide (x2.2.2.2.2.2.2.2.2.2.2.2.2 < x2.2.2.2.2.2.2.2.2.2.2.2.1)) then
      (sL1Below (GCur.mk x2.1 x2.2.1 x2.2.2.1) 3).bind fun r3 =>
      (sL10Num r3.2).bind fun r4 =>
      (sL1Below r3.1 4).bind fun r5 =>
      (sL10Num r5.2).bind fun r6 =>
      (gd (x2.2.2.2.2.2.2.2.2.2.2.1.length + ([GExpr.mk 4 0 [] [reExpr r4, reExpr r6]]).length)).bind fun _ =>
      some (.inl (r5.1.b, r5.1.i, r5.1.h, x2.2.2.2.1, x2.2.2.2.2.1, x2.2.2.2.2.2.1, x2.2.2.2.2.2.2.1, x2.2.2.2.2.2.2.2.1, x2.2.2.2.2.2.2.2.2.1, x2.2.2.2.2.2.2.2.2.2.1, x2.2.2.2.2.2.2.2.2.2.2.1 ++ ([GExpr.mk 4 0 [] [reExpr r4, reExpr r6]]), x2.2.2.2.2.2.2.2.2.2.2.2.1, w64 (x2.2.2.2.2.2.2.2.2.2.2.2.2 + 1)))
    else
      (
        (sL10Call [116, 97, 98, 108, 101] ([GExpr.mk 2 0 [97, 32, 98] [], GExpr.mk x2.2.2.2.2.2.2.2.1 x2.2.2.2.2.2.2.2.2.1 x2.2.2.2.2.2.2.2.2.2.1 x2.2.2.2.2.2.2.2.2.2.2.1])).bind fun r7 =>
        some (GCur.mk x2.1 x2.2.1 x2.2.2.1, reExpr r7)
      ).bind fun r => some (.inr r)
  ) (r1.1.b, r1.1.i, r1.1.h, 0, 0, [], [], 4, 0, [], [], r1.2, 0)
noncomputable def sL10TableFS : Fsp := { fid := 156, ps := [⟨true, .base .cur⟩], rs := [⟨true, .base .cur⟩, ⟨true, .base .expr⟩], ex := false, fn := fun x => sL10Table x }
noncomputable def sL10MakeB (rsL10Make : GCur → (List Str) → Int → Option (GCur × GExpr)) (a : GCur) (b : List Str) (c : Int) : Option (GCur × GExpr) :=
  bif (decide (c < 2)) then
    (sL10Leaf a b).bind fun r1 =>
    some (r1.1, reExpr r1.2)
  else
  (sL1Below a 13).bind fun r2 =>
  bif (r2.2 == 0) then
    (sL1Below r2.1 5).bind fun r3 =>
    (rsL10Make r3.1 b (w64 (c - 1))).bind fun r4 =>
    (rsL10Make r4.1 b (w64 (c - 1))).bind fun r5 =>
    (sL10Op (w64 (1 + r3.2)) (reExpr r4.2) (reExpr r5.2)).bind fun r6 =>
    some (r5.1, reExpr r6)
  else
  bif (r2.2 == 1) then
    (sL1Below r2.1 5).bind fun r7 =>
    (rsL10Make r7.1 b (w64 (c - 1))).bind fun r8 =>
    (rsL10Make r8.1 b (w64 (c - 1))).bind fun r9 =>
    (sL10Op (w64 (1 + r7.2)) (reExpr r8.2) (reExpr r9.2)).bind fun r10 =>
    some (r9.1, reExpr r10)
  else
  bif (r2.2 == 2) then
    (idx b 0).bind fun e11 =>
    (sL1Pick r2.1 ([[117], [118], e11] : List Str)).bind fun r12 =>
    (rsL10Make r12.1 b (w64 (c - 1))).bind fun r13 =>
    (gd (([r12.2] : List Str).length + b.length)).bind fun _ =>
    (rsL10Make r13.1 (([r12.2] : List Str) ++ b) (w64 (c - 1))).bind fun r14 =>
    some (r14.1, GExpr.mk 7 0 r12.2 [reExpr r13.2, reExpr r14.2])
  else
  bif (r2.2 == 3) then
    (rsL10Make r2.1 b (w64 (c - 1))).bind fun r15 =>
    (rsL10Make r15.1 b (w64 (c - 1))).bind fun r16 =>
    (rsL10Make r16.1 b (w64 (c - 1))).bind fun r17 =>
    some (r17.1, GExpr.mk 8 0 [] [reExpr r15.2, reExpr r16.2, reExpr r17.2])
  else
  bif (r2.2 == 4) then
    (idx b 0).bind fun e18 =>
    (sL1Pick r2.1 ([[117], [118], e18] : List Str)).bind fun r19 =>
    (sL10List r19.1 b).bind fun r20 =>
    (gd (([r19.2, r19.2] : List Str).length + b.length)).bind fun _ =>
    (rsL10Make r20.1 (([r19.2, r19.2] : List Str) ++ b) (w64 (c - 1))).bind fun r21 =>
    some (r21.1, GExpr.mk 9 0 r19.2 [reExpr r20.2, reExpr r21.2])
  else
  bif (r2.2 == 5) then
    (sL10List r2.1 b).bind fun r22 =>
    some (r22.1, reExpr r22.2)
  else
  bif (r2.2 == 6) then
    (sL1Pick r2.1 ([[108, 101, 110], [115, 117, 109]] : List Str)).bind fun r23 =>
    (sL10List r23.1 b).bind fun r24 =>
    (rsL10Make r24.1 b (w64 (c - 1))).bind fun r25 =>
    (sL1PickExpr r25.1 (reExpr r24.2) (reExpr r25.2)).bind fun r26 =>
    (sL10Call r23.2 [reExpr r26.2]).bind fun r27 =>
    some (r26.1, reExpr r27)
  else
  bif (r2.2 == 7) then
    (sL1Pick r2.1 ([[116, 97, 107, 101], [115, 107, 105, 112], [110, 116, 104], [116, 97, 107, 101]] : List Str)).bind fun r28 =>
    (sL1Below r28.1 4).bind fun r29 =>
    (sL10Num r29.2).bind fun r30 =>
    (sL10List r29.1 b).bind fun r31 =>
    (sL1Below r31.1 9).bind fun r32 =>
    (sL10Num r32.2).bind fun r33 =>
    (sL1Below r32.1 4).bind fun r34 =>
    (sL10Num r34.2).bind fun r35 =>
    (sL10Call [114, 97, 110, 103, 101] [reExpr r33, reExpr r35]).bind fun r36 =>
    (sL1PickExpr r34.1 (reExpr r31.2) (reExpr r36)).bind fun r37 =>
    (sL10Call r28.2 [reExpr r30, reExpr r37.2]).bind fun r38 =>
    some (r37.1, reExpr r38)
  else
  bif (r2.2 == 8) then
    (sL10Column r2.1).bind fun r39 =>
    (sL1Below r39.1 3).bind fun r40 =>
    (sL10Num r40.2).bind fun r41 =>
    (sL10Table r40.1).bind fun r42 =>
    (rsL10Make r42.1 b (w64 (c - 1))).bind fun r43 =>
    (sL1PickExpr r43.1 (reExpr r42.2) (reExpr r43.2)).bind fun r44 =>
    (sL10Call [119, 104, 101, 114, 101] [reExpr r39.2, reExpr r41, reExpr r44.2]).bind fun r45 =>
    some (r44.1, reExpr r45)
  else
  bif (r2.2 == 9) then
    (sL10Column r2.1).bind fun r46 =>
    (sL10Column r46.1).bind fun r47 =>
    (sL10Table r47.1).bind fun r48 =>
    (rsL10Make r48.1 b (w64 (c - 1))).bind fun r49 =>
    (sL1PickExpr r49.1 (reExpr r48.2) (reExpr r49.2)).bind fun r50 =>
    (sL10Call [103, 114, 111, 117, 112] [reExpr r46.2, reExpr r47.2, reExpr r50.2]).bind fun r51 =>
    some (r50.1, reExpr r51)
  else
  bif (r2.2 == 10) then
    (sL10Table r2.1).bind fun r52 =>
    (rsL10Make r52.1 b (w64 (c - 1))).bind fun r53 =>
    (sL1PickExpr r53.1 (reExpr r52.2) (reExpr r53.2)).bind fun r54 =>
    (sL10Call [114, 111, 119, 115] [reExpr r54.2]).bind fun r55 =>
    some (r54.1, reExpr r55)
  else
  bif (r2.2 == 11) then
    (sL1Below r2.1 6).bind fun r56 =>
    (sL10Num (w64 (1 + r56.2))).bind fun r57 =>
    (sL10Call [99, 104, 97, 110, 99, 101] [reExpr r57]).bind fun r58 =>
    some (r56.1, reExpr r58)
  else
    (sL10Call [99, 108, 111, 99, 107] []).bind fun r59 =>
    (sL1Pick r2.1 ([[102], [103], [104]] : List Str)).bind fun r60 =>
    (sL10Call [102, 105, 108, 101] ([GExpr.mk 2 0 r60.2 []])).bind fun r61 =>
    (sL1PickExpr r60.1 (reExpr r59) (reExpr r61)).bind fun r62 =>
    some (r62.1, reExpr r62.2)
noncomputable def sL10MakeG : Nat → (GCur → (List Str) → Int → Option (GCur × GExpr))
  | 0 => fun _ _ _ => none
  | n + 1 => sL10MakeB (sL10MakeG n)
noncomputable def sL10Make (a : GCur) (b : List Str) (c : Int) : Option (GCur × GExpr) := (sL10MakeG (siz a + siz b + 1)) a b c
noncomputable def sL10MakeFS : Fsp := { fid := 131, ps := [⟨true, .base .cur⟩, ⟨false, .list (.base .str)⟩, ⟨false, .base .int⟩], rs := [⟨true, .base .cur⟩, ⟨true, .base .expr⟩], ex := false, fn := fun x => sL10Make x.1 x.2.1 x.2.2 }
noncomputable def sL10MakeFSN (n : Nat) : Fsp := { fid := 131, ps := [⟨true, .base .cur⟩, ⟨false, .list (.base .str)⟩, ⟨false, .base .int⟩], rs := [⟨true, .base .cur⟩, ⟨true, .base .expr⟩], ex := false, fn := fun x => (sL10MakeG n) x.1 x.2.1 x.2.2 }
noncomputable def sL10LeftB (rsL10Left : GExpr → Int → Option (Int)) (a : GExpr) (b : Int) : Option (Int) :=
  loopD (fun (x1 : Int × Int × Int × Str × (List GExpr) × Int) =>
    bif (decide (x1.2.2.2.2.2 < (x1.2.2.2.2.1.length : Int))) then
      bif (decide (x1.1 ≥ 0)) then
        (idx x1.2.2.2.2.1 x1.2.2.2.2.2).bind fun e2 =>
        (rsL10Left (reExpr e2) x1.1).bind fun r3 =>
        some (.inl (r3, x1.2.1, x1.2.2.1, x1.2.2.2.1, x1.2.2.2.2.1, w64 (x1.2.2.2.2.2 + 1)))
      else
        some (.inr (x1.1))
    else
      some (.inr (x1.1))
  ) (w64 (b - 1), a.kind, a.n, a.text, a.args, 0)
noncomputable def sL10LeftG : Nat → (GExpr → Int → Option (Int))
  | 0 => fun _ _ => none
  | n + 1 => sL10LeftB (sL10LeftG n)
noncomputable def sL10Left (a : GExpr) (b : Int) : Option (Int) := (sL10LeftG (siz a + 1)) a b
noncomputable def sL10LeftFS : Fsp := { fid := 163, ps := [⟨true, .base .expr⟩, ⟨false, .base .int⟩], rs := [⟨false, .base .int⟩], ex := true, fn := fun x => sL10Left x.1 x.2 }
noncomputable def sL10LeftFSN (n : Nat) : Fsp := { fid := 163, ps := [⟨true, .base .expr⟩, ⟨false, .base .int⟩], rs := [⟨false, .base .int⟩], ex := true, fn := fun x => (sL10LeftG n) x.1 x.2 }
noncomputable def sNestingOfB (rsNestingOf : GExpr → Option (Int)) (a : GExpr) : Option (Int) :=
  loopD (fun (x1 : Int × Int × Str × (List GExpr) × Int × Int) =>
    bif (decide (x1.2.2.2.2.2 < (x1.2.2.2.1.length : Int))) then
      (idx x1.2.2.2.1 x1.2.2.2.2.2).bind fun e2 =>
      (rsNestingOf (reExpr e2)).bind fun r3 =>
      (sL1Max x1.2.2.2.2.1 r3).bind fun r4 =>
      some (.inl (x1.1, x1.2.1, x1.2.2.1, x1.2.2.2.1, r4, w64 (x1.2.2.2.2.2 + 1)))
    else
      some (.inr (w64 (x1.2.2.2.2.1 + 1)))
  ) (a.kind, a.n, a.text, a.args, 0, 0)
noncomputable def sNestingOfG : Nat → (GExpr → Option (Int))
  | 0 => fun _ => none
  | n + 1 => sNestingOfB (sNestingOfG n)
noncomputable def sNestingOf (a : GExpr) : Option (Int) := (sNestingOfG (siz a + 1)) a
noncomputable def sNestingOfFS : Fsp := { fid := 164, ps := [⟨true, .base .expr⟩], rs := [⟨false, .base .int⟩], ex := true, fn := fun x => sNestingOf x }
noncomputable def sNestingOfFSN (n : Nat) : Fsp := { fid := 164, ps := [⟨true, .base .expr⟩], rs := [⟨false, .base .int⟩], ex := true, fn := fun x => (sNestingOfG n) x }
noncomputable def sIsValidText (a : Str) : Option (Bool) :=
  loopD (fun (x1 : Str × Int) =>
    bif (decide (x1.2 < (x1.1.length : Int))) then
      (idx x1.1 x1.2).bind fun c2 =>
      bif (decide ((c2.toNat : Int) < 32)) then
        some (.inr (false))
      else
        (idx x1.1 x1.2).bind fun c3 =>
        bif (decide ((c3.toNat : Int) > 126)) then
          some (.inr (false))
        else
          (idx x1.1 x1.2).bind fun c4 =>
          bif ((c4.toNat : Int) == 34) then
            some (.inr (false))
          else
            some (.inl (x1.1, w64 (x1.2 + 1)))
    else
      some (.inr ((decide ((x1.1.length : Int) ≤ 20))))
  ) (a, 0)
noncomputable def sIsValidTextFS : Fsp := { fid := 176, ps := [⟨false, .base .str⟩], rs := [⟨false, .base .bool⟩], ex := true, fn := fun x => sIsValidText x }
noncomputable def sL2Shape (a : Str) : Option (Bool) :=
  loopD (fun (x1 : Str × Int) =>
    bif (decide (x1.2 < (x1.1.length : Int))) then
      (idx x1.1 x1.2).bind fun c2 =>
      bif (decide ((c2.toNat : Int) ≥ 97)) then
        (idx x1.1 x1.2).bind fun c3 =>
        (idx x1.1 x1.2).bind fun c4 =>
        bif (decide ((c4.toNat : Int) ≥ 48)) then
          (idx x1.1 x1.2).bind fun c5 =>
          bif (!(decide ((c3.toNat : Int) ≤ 122))) then
            bif (x1.2 == 0) then
              some (.inr (false))
            else
              bif (!(decide ((c5.toNat : Int) ≤ 57))) then
                some (.inr (false))
              else
                some (.inl (x1.1, w64 (x1.2 + 1)))
          else
            some (.inl (x1.1, w64 (x1.2 + 1)))
        else
          bif (!(decide ((c3.toNat : Int) ≤ 122))) then
            bif (x1.2 == 0) then
              some (.inr (false))
            else
              some (.inr (false))
          else
            some (.inl (x1.1, w64 (x1.2 + 1)))
      else
      (idx x1.1 x1.2).bind fun c6 =>
      bif (decide ((c6.toNat : Int) ≥ 48)) then
        (idx x1.1 x1.2).bind fun c7 =>
        bif (x1.2 == 0) then
          some (.inr (false))
        else
          bif (!(decide ((c7.toNat : Int) ≤ 57))) then
            some (.inr (false))
          else
            some (.inl (x1.1, w64 (x1.2 + 1)))
      else
        bif (x1.2 == 0) then
          some (.inr (false))
        else
          some (.inr (false))
    else
      some (.inr ((decide ((x1.1.length : Int) > 0))))
  ) (a, 0)
noncomputable def sL2ShapeFS : Fsp := { fid := 179, ps := [⟨false, .base .str⟩], rs := [⟨false, .base .bool⟩], ex := true, fn := fun x => sL2Shape x }
noncomputable def sL1Has (a : List Str) (b : Str) : Option (Bool) :=
  loopD (fun (x1 : (List Str) × Str × Int) =>
    bif (decide (x1.2.2 < (x1.1.length : Int))) then
      (idx x1.1 x1.2.2).bind fun e2 =>
      bif (e2 == x1.2.1) then
        some (.inr (true))
      else
        some (.inl (x1.1, x1.2.1, w64 (x1.2.2 + 1)))
    else
      some (.inr (false))
  ) (a, b, 0)
noncomputable def sL1HasFS : Fsp := { fid := 181, ps := [⟨false, .list (.base .str)⟩, ⟨false, .base .str⟩], rs := [⟨false, .base .bool⟩], ex := true, fn := fun x => sL1Has x.1 x.2 }
noncomputable def sL2Reserved : Option ((List Str)) :=
  some (([[108, 101, 116], [105, 110], [105, 102], [116, 104, 101, 110], [101, 108, 115, 101], [102, 111, 114], [100, 111], [108, 101, 110], [115, 117, 109], [116, 97, 107, 101], [115, 107, 105, 112], [114, 97, 110, 103, 101], [110, 116, 104], [119, 104, 101, 114, 101], [107, 101, 101, 112], [97, 100, 100], [103, 114, 111, 117, 112], [106, 111, 105, 110], [99, 111, 108, 117, 109, 110], [114, 111, 119, 115], [99, 108, 111, 99, 107], [99, 104, 97, 110, 99, 101], [102, 105, 108, 101], [116, 97, 98, 108, 101]] : List Str))
noncomputable def sL2ReservedFS : Fsp := { fid := 182, ps := [], rs := [⟨false, .list (.base .str)⟩], ex := true, fn := fun x => sL2Reserved }
noncomputable def sIsReserved (a : Str) : Option (Bool) :=
  (sL2Reserved).bind fun r1 =>
  (sL1Has r1 a).bind fun r2 =>
  some (r2)
noncomputable def sIsReservedFS : Fsp := { fid := 180, ps := [⟨false, .base .str⟩], rs := [⟨false, .base .bool⟩], ex := true, fn := fun x => sIsReserved x }
noncomputable def sIsValidName (a : Str) : Option (Bool) :=
  (sL2Shape a).bind fun r1 =>
  bif r1 then
    bif (decide ((a.length : Int) ≤ 8)) then
      (sIsReserved a).bind fun r2 =>
      some ((!r2))
    else
      some (false)
  else
    some (false)
noncomputable def sIsValidNameFS : Fsp := { fid := 177, ps := [⟨false, .base .str⟩], rs := [⟨false, .base .bool⟩], ex := true, fn := fun x => sIsValidName x }
noncomputable def sArgumentCount (a : Str) : Option (Int) :=
  bif (a == [99, 108, 111, 99, 107]) then
    some (0)
  else
  bif (a == [108, 101, 110]) then
    some (1)
  else
  bif (a == [115, 117, 109]) then
    some (1)
  else
  bif (a == [114, 111, 119, 115]) then
    some (1)
  else
  bif (a == [99, 104, 97, 110, 99, 101]) then
    some (1)
  else
  bif (a == [102, 105, 108, 101]) then
    some (1)
  else
  bif (a == [116, 97, 107, 101]) then
    some (2)
  else
  bif (a == [115, 107, 105, 112]) then
    some (2)
  else
  bif (a == [114, 97, 110, 103, 101]) then
    some (2)
  else
  bif (a == [110, 116, 104]) then
    some (2)
  else
  bif (a == [107, 101, 101, 112]) then
    some (2)
  else
  bif (a == [99, 111, 108, 117, 109, 110]) then
    some (2)
  else
  bif (a == [116, 97, 98, 108, 101]) then
    some (2)
  else
  bif (a == [119, 104, 101, 114, 101]) then
    some (3)
  else
    bif (a == [103, 114, 111, 117, 112]) then
      some (3)
    else
      bif (a == [106, 111, 105, 110]) then
        some (3)
      else
        bif (a == [97, 100, 100]) then
          some (4)
        else
          some ((-1))
noncomputable def sArgumentCountFS : Fsp := { fid := 178, ps := [⟨false, .base .str⟩], rs := [⟨false, .base .int⟩], ex := true, fn := fun x => sArgumentCount x }
noncomputable def sL10Node (a : GExpr) : Option (Bool) :=
  bif (a.kind == 1) then
    bif ((a.args.length : Int) == 0) then
      bif (a.text == []) then
        (sL1In a.n 0 1000000000).bind fun r1 =>
        some (r1)
      else
        some (false)
    else
      some (false)
  else
  bif (a.kind == 2) then
    bif ((a.args.length : Int) == 0) then
      bif (a.n == 0) then
        (sIsValidText a.text).bind fun r2 =>
        some (r2)
      else
        some (false)
    else
      some (false)
  else
  bif (a.kind == 3) then
    bif ((a.args.length : Int) == 0) then
      bif (a.n == 0) then
        (sIsValidName a.text).bind fun r3 =>
        some (r3)
      else
        some (false)
    else
      some (false)
  else
  bif (a.kind == 4) then
    bif (a.n == 0) then
      bif (a.text == []) then
        some ((decide ((a.args.length : Int) ≤ 8)))
      else
        some (false)
    else
      some (false)
  else
  bif (a.kind == 5) then
    bif (a.n == 0) then
      (sArgumentCount a.text).bind fun r4 =>
      some (((a.args.length : Int) == r4))
    else
      some (false)
  else
  bif (a.kind == 6) then
    bif (a.text == []) then
      bif ((a.args.length : Int) == 2) then
        (sL1In a.n 1 5).bind fun r5 =>
        some (r5)
      else
        some (false)
    else
      some (false)
  else
  bif (a.kind == 7) then
    bif (a.n == 0) then
      bif ((a.args.length : Int) == 2) then
        (sIsValidName a.text).bind fun r6 =>
        some (r6)
      else
        some (false)
    else
      some (false)
  else
  bif (a.kind == 9) then
    bif (a.n == 0) then
      bif ((a.args.length : Int) == 2) then
        (sIsValidName a.text).bind fun r7 =>
        some (r7)
      else
        some (false)
    else
      some (false)
  else
    bif (a.kind == 8) then
      bif (a.n == 0) then
        bif (a.text == []) then
          some (((a.args.length : Int) == 3))
        else
          some (false)
      else
        some (false)
    else
      some (false)
noncomputable def sL10NodeFS : Fsp := { fid := 173, ps := [⟨true, .base .expr⟩], rs := [⟨false, .base .bool⟩], ex := true, fn := fun x => sL10Node x }
noncomputable def sL10AllB (rsL10All : GExpr → Option (Bool)) (a : GExpr) : Option (Bool) :=
  loopD (fun (x1 : Int × Int × Str × (List GExpr) × Int) =>
    bif (decide (x1.2.2.2.2 < (x1.2.2.2.1.length : Int))) then
      (idx x1.2.2.2.1 x1.2.2.2.2).bind fun e2 =>
      (rsL10All (reExpr e2)).bind fun r3 =>
      bif (!r3) then
        some (.inr (false))
      else
        some (.inl (x1.1, x1.2.1, x1.2.2.1, x1.2.2.2.1, w64 (x1.2.2.2.2 + 1)))
    else
      (
        (sL10Node (GExpr.mk x1.1 x1.2.1 x1.2.2.1 x1.2.2.2.1)).bind fun r4 =>
        some (r4)
      ).bind fun r => some (.inr r)
  ) (a.kind, a.n, a.text, a.args, 0)
noncomputable def sL10AllG : Nat → (GExpr → Option (Bool))
  | 0 => fun _ => none
  | n + 1 => sL10AllB (sL10AllG n)
noncomputable def sL10All (a : GExpr) : Option (Bool) := (sL10AllG (siz a + 1)) a
noncomputable def sL10AllFS : Fsp := { fid := 165, ps := [⟨true, .base .expr⟩], rs := [⟨false, .base .bool⟩], ex := true, fn := fun x => sL10All x }
noncomputable def sL10AllFSN (n : Nat) : Fsp := { fid := 165, ps := [⟨true, .base .expr⟩], rs := [⟨false, .base .bool⟩], ex := true, fn := fun x => (sL10AllG n) x }
noncomputable def sIsValidExpr (a : GExpr) : Option (Bool) :=
  (sL10Left (reExpr a) 40).bind fun r1 =>
  bif (decide (r1 ≥ 0)) then
    (sNestingOf (reExpr a)).bind fun r2 =>
    bif (decide (r2 ≤ 8)) then
      (sL10All (reExpr a)).bind fun r3 =>
      some (r3)
    else
      some (false)
  else
    some (false)
noncomputable def sIsValidExprFS : Fsp := { fid := 157, ps := [⟨true, .base .expr⟩], rs := [⟨false, .base .bool⟩], ex := true, fn := fun x => sIsValidExpr x }
noncomputable def sJoin (a : List Str) (b : Str) : Option (Str) :=
  loopD (fun (x1 : (List Str) × Str × (List Int) × Int) =>
    bif (decide (x1.2.2.2 < (x1.1.length : Int))) then
      bif (decide (x1.2.2.2 > 0)) then
        (gd (x1.2.2.1.length + (octs x1.2.1).length)).bind fun _ =>
        (idx x1.1 x1.2.2.2).bind fun e2 =>
        (gd ((x1.2.2.1 ++ (octs x1.2.1)).length + (octs e2).length)).bind fun _ =>
        some (.inl (x1.1, x1.2.1, (x1.2.2.1 ++ (octs x1.2.1)) ++ (octs e2), w64 (x1.2.2.2 + 1)))
      else
        (idx x1.1 x1.2.2.2).bind fun e3 =>
        (gd (x1.2.2.1.length + (octs e3).length)).bind fun _ =>
        some (.inl (x1.1, x1.2.1, x1.2.2.1 ++ (octs e3), w64 (x1.2.2.2 + 1)))
    else
      some (.inr (bytesOf x1.2.2.1))
  ) (a, b, [], 0)
noncomputable def sJoinFS : Fsp := { fid := 147, ps := [⟨false, .list (.base .str)⟩, ⟨false, .base .str⟩], rs := [⟨false, .base .str⟩], ex := true, fn := fun x => sJoin x.1 x.2 }
noncomputable def sLevelOf (a : GExpr) : Option (Int) :=
  bif (a.kind == 7) then
    some (0)
  else
  bif (a.kind == 8) then
    some (0)
  else
  bif (a.kind == 9) then
    some (0)
  else
  bif (a.kind == 6) then
    bif (a.n == 4) then
      some (1)
    else
    bif (a.n == 5) then
      some (1)
    else
      bif (a.n == 1) then
        some (2)
      else
        bif (a.n == 2) then
          some (2)
        else
          bif (a.n == 3) then
            some (3)
          else
            some (4)
  else
    some (4)
noncomputable def sLevelOfFS : Fsp := { fid := 167, ps := [⟨true, .base .expr⟩], rs := [⟨false, .base .int⟩], ex := true, fn := fun x => sLevelOf x }
noncomputable def sOpSymbol (a : Int) : Option (Str) :=
  (sL1In a 1 5).bind fun r1 =>
  bif (!r1) then
    some ([63])
  else
    (idx ([[], [43], [45], [42], [60], [61, 61]] : List Str) a).bind fun _ =>
    (([[], [43], [45], [42], [60], [61, 61]] : List Str)[a.toNat]?).bind fun e3 =>
    some (e3)
noncomputable def sOpSymbolFS : Fsp := { fid := 169, ps := [⟨false, .base .int⟩], rs := [⟨false, .base .str⟩], ex := true, fn := fun x => sOpSymbol x }
noncomputable def sL12TextB (rsL12Text : GExpr → Option (Str)) (rsL12List : (List GExpr) → Option (Str)) (rsL12At : GExpr → Int → Option (Str)) (a : GExpr) : Option (Str) :=
  bif (a.kind == 1) then
    (sFormatInt a.n).bind fun r1 =>
    some (r1)
  else
  bif (a.kind == 2) then
    (gd ([34].length + a.text.length)).bind fun _ =>
    (gd (([34] ++ a.text).length + [34].length)).bind fun _ =>
    some (([34] ++ a.text) ++ [34])
  else
  bif (a.kind == 3) then
    some (a.text)
  else
  bif (a.kind == 4) then
    (rsL12List a.args).bind fun r2 =>
    (gd ([91].length + r2.length)).bind fun _ =>
    (gd (([91] ++ r2).length + [93].length)).bind fun _ =>
    some (([91] ++ r2) ++ [93])
  else
  bif (a.kind == 5) then
    (gd (a.text.length + [40].length)).bind fun _ =>
    (rsL12List a.args).bind fun r3 =>
    (gd ((a.text ++ [40]).length + r3.length)).bind fun _ =>
    (gd (((a.text ++ [40]) ++ r3).length + [41].length)).bind fun _ =>
    some (((a.text ++ [40]) ++ r3) ++ [41])
  else
  bif (a.kind == 7) then
    (gd ([108, 101, 116, 32].length + a.text.length)).bind fun _ =>
    (gd (([108, 101, 116, 32] ++ a.text).length + [32, 61, 32].length)).bind fun _ =>
    (idx a.args 0).bind fun e4 =>
    (rsL12Text (reExpr e4)).bind fun r5 =>
    (gd ((([108, 101, 116, 32] ++ a.text) ++ [32, 61, 32]).length + r5.length)).bind fun _ =>
    (gd (((([108, 101, 116, 32] ++ a.text) ++ [32, 61, 32]) ++ r5).length + [32, 105, 110, 32].length)).bind fun _ =>
    (idx a.args 1).bind fun e6 =>
    (rsL12Text (reExpr e6)).bind fun r7 =>
    (gd ((((([108, 101, 116, 32] ++ a.text) ++ [32, 61, 32]) ++ r5) ++ [32, 105, 110, 32]).length + r7.length)).bind fun _ =>
    some ((((([108, 101, 116, 32] ++ a.text) ++ [32, 61, 32]) ++ r5) ++ [32, 105, 110, 32]) ++ r7)
  else
  bif (a.kind == 9) then
    (gd ([102, 111, 114, 32].length + a.text.length)).bind fun _ =>
    (gd (([102, 111, 114, 32] ++ a.text).length + [32, 105, 110, 32].length)).bind fun _ =>
    (idx a.args 0).bind fun e8 =>
    (rsL12Text (reExpr e8)).bind fun r9 =>
    (gd ((([102, 111, 114, 32] ++ a.text) ++ [32, 105, 110, 32]).length + r9.length)).bind fun _ =>
    (gd (((([102, 111, 114, 32] ++ a.text) ++ [32, 105, 110, 32]) ++ r9).length + [32, 100, 111, 32].length)).bind fun _ =>
    (idx a.args 1).bind fun e10 =>
    (rsL12Text (reExpr e10)).bind fun r11 =>
    (gd ((((([102, 111, 114, 32] ++ a.text) ++ [32, 105, 110, 32]) ++ r9) ++ [32, 100, 111, 32]).length + r11.length)).bind fun _ =>
    some ((((([102, 111, 114, 32] ++ a.text) ++ [32, 105, 110, 32]) ++ r9) ++ [32, 100, 111, 32]) ++ r11)
  else
  bif (a.kind == 8) then
    (idx a.args 0).bind fun e12 =>
    (rsL12Text (reExpr e12)).bind fun r13 =>
    (gd ([105, 102, 32].length + r13.length)).bind fun _ =>
    (gd (([105, 102, 32] ++ r13).length + [32, 116, 104, 101, 110, 32].length)).bind fun _ =>
    (idx a.args 1).bind fun e14 =>
    (rsL12Text (reExpr e14)).bind fun r15 =>
    (gd ((([105, 102, 32] ++ r13) ++ [32, 116, 104, 101, 110, 32]).length + r15.length)).bind fun _ =>
    (gd (((([105, 102, 32] ++ r13) ++ [32, 116, 104, 101, 110, 32]) ++ r15).length + [32, 101, 108, 115, 101, 32].length)).bind fun _ =>
    (idx a.args 2).bind fun e16 =>
    (rsL12Text (reExpr e16)).bind fun r17 =>
    (gd ((((([105, 102, 32] ++ r13) ++ [32, 116, 104, 101, 110, 32]) ++ r15) ++ [32, 101, 108, 115, 101, 32]).length + r17.length)).bind fun _ =>
    some ((((([105, 102, 32] ++ r13) ++ [32, 116, 104, 101, 110, 32]) ++ r15) ++ [32, 101, 108, 115, 101, 32]) ++ r17)
  else
  (sLevelOf (reExpr a)).bind fun r18 =>
  bif (r18 == 1) then
    (idx a.args 0).bind fun e19 =>
    (rsL12At (reExpr e19) 2).bind fun r20 =>
    (gd (r20.length + [32].length)).bind fun _ =>
    (sOpSymbol a.n).bind fun r21 =>
    (gd ((r20 ++ [32]).length + r21.length)).bind fun _ =>
    (gd (((r20 ++ [32]) ++ r21).length + [32].length)).bind fun _ =>
    (idx a.args 1).bind fun e22 =>
    (rsL12At (reExpr e22) (w64 (r18 + 1))).bind fun r23 =>
    (gd ((((r20 ++ [32]) ++ r21) ++ [32]).length + r23.length)).bind fun _ =>
    some ((((r20 ++ [32]) ++ r21) ++ [32]) ++ r23)
  else
  (idx a.args 0).bind fun e24 =>
  (rsL12At (reExpr e24) r18).bind fun r25 =>
  (gd (r25.length + [32].length)).bind fun _ =>
  (sOpSymbol a.n).bind fun r26 =>
  (gd ((r25 ++ [32]).length + r26.length)).bind fun _ =>
  (gd (((r25 ++ [32]) ++ r26).length + [32].length)).bind fun _ =>
  (idx a.args 1).bind fun e27 =>
  (rsL12At (reExpr e27) (w64 (r18 + 1))).bind fun r28 =>
  (gd ((((r25 ++ [32]) ++ r26) ++ [32]).length + r28.length)).bind fun _ =>
  some ((((r25 ++ [32]) ++ r26) ++ [32]) ++ r28)
noncomputable def sL12ListB (rsL12Text : GExpr → Option (Str)) (rsL12List : (List GExpr) → Option (Str)) (rsL12At : GExpr → Int → Option (Str)) (a : List GExpr) : Option (Str) :=
  loopD (fun (x1 : (List GExpr) × (List Str) × Int) =>
    bif (decide (x1.2.2 < (x1.1.length : Int))) then
      (idx x1.1 x1.2.2).bind fun e2 =>
      (rsL12Text (reExpr e2)).bind fun r3 =>
      (gd (x1.2.1.length + ([r3] : List Str).length)).bind fun _ =>
      some (.inl (x1.1, x1.2.1 ++ ([r3] : List Str), w64 (x1.2.2 + 1)))
    else
      (
        (sJoin x1.2.1 [44, 32]).bind fun r4 =>
        some (r4)
      ).bind fun r => some (.inr r)
  ) (a, [], 0)
noncomputable def sL12AtB (rsL12Text : GExpr → Option (Str)) (rsL12List : (List GExpr) → Option (Str)) (rsL12At : GExpr → Int → Option (Str)) (a : GExpr) (b : Int) : Option (Str) :=
  (rsL12Text (reExpr a)).bind fun r1 =>
  (sLevelOf (reExpr a)).bind fun r2 =>
  bif (decide (r2 < b)) then
    (gd ([40].length + r1.length)).bind fun _ =>
    (gd (([40] ++ r1).length + [41].length)).bind fun _ =>
    some (([40] ++ r1) ++ [41])
  else
    some (r1)
noncomputable def sL12TextG : Nat → (GExpr → Option (Str)) × ((List GExpr) → Option (Str)) × (GExpr → Int → Option (Str))
  | 0 => (fun _ => none, fun _ => none, fun _ _ => none)
  | n + 1 => (sL12TextB (sL12TextG n).1 (sL12TextG n).2.1 (sL12TextG n).2.2, sL12ListB (sL12TextG n).1 (sL12TextG n).2.1 (sL12TextG n).2.2, sL12AtB (sL12TextG n).1 (sL12TextG n).2.1 (sL12TextG n).2.2)
noncomputable def sL12Text (a : GExpr) : Option (Str) := (sL12TextG (siz a + 1)).1 a
noncomputable def sL12TextFS : Fsp := { fid := 158, ps := [⟨true, .base .expr⟩], rs := [⟨false, .base .str⟩], ex := true, fn := fun x => sL12Text x }
noncomputable def sL12TextFSN (n : Nat) : Fsp := { fid := 158, ps := [⟨true, .base .expr⟩], rs := [⟨false, .base .str⟩], ex := true, fn := fun x => (sL12TextG n).1 x }
noncomputable def sL12List (a : List GExpr) : Option (Str) := (sL12TextG (siz a + 1)).2.1 a
noncomputable def sL12ListFS : Fsp := { fid := 166, ps := [⟨false, .list (.base .expr)⟩], rs := [⟨false, .base .str⟩], ex := true, fn := fun x => sL12List x }
noncomputable def sL12ListFSN (n : Nat) : Fsp := { fid := 166, ps := [⟨false, .list (.base .expr)⟩], rs := [⟨false, .base .str⟩], ex := true, fn := fun x => (sL12TextG n).2.1 x }
noncomputable def sL12At (a : GExpr) (b : Int) : Option (Str) := (sL12TextG (siz a + 1)).2.2 a b
noncomputable def sL12AtFS : Fsp := { fid := 168, ps := [⟨true, .base .expr⟩, ⟨false, .base .int⟩], rs := [⟨false, .base .str⟩], ex := true, fn := fun x => sL12At x.1 x.2 }
noncomputable def sL12AtFSN (n : Nat) : Fsp := { fid := 168, ps := [⟨true, .base .expr⟩, ⟨false, .base .int⟩], rs := [⟨false, .base .str⟩], ex := true, fn := fun x => (sL12TextG n).2.2 x.1 x.2 }
noncomputable def sFormatExpr (a : GExpr) : Option (Str) :=
  (sIsValidExpr (reExpr a)).bind fun r1 =>
  bif (!r1) then
    some ([])
  else
    (sL12Text (reExpr a)).bind fun r2 =>
    some (r2)
noncomputable def sFormatExprFS : Fsp := { fid := 132, ps := [⟨true, .base .expr⟩], rs := [⟨false, .base .str⟩], ex := true, fn := fun x => sFormatExpr x }
noncomputable def sL17Expr (a : GCur) : Option (GCur × Str) :=
  (sL1Below a 9).bind fun r1 =>
  bif (r1.2 == 0) then
    (sL1Pick r1.1 ([[97], [98], [99], [100], [101]] : List Str)).bind fun r2 =>
    (gd (r2.2.length + [32, 43, 32].length)).bind fun _ =>
    (sL1Pick r2.1 ([[97], [98], [99], [100], [101]] : List Str)).bind fun r3 =>
    (gd ((r2.2 ++ [32, 43, 32]).length + r3.2.length)).bind fun _ =>
    some (r3.1, (r2.2 ++ [32, 43, 32]) ++ r3.2)
  else
  bif (r1.2 == 1) then
    (sL1Pick r1.1 ([[97], [98], [99], [100], [101]] : List Str)).bind fun r4 =>
    (gd (r4.2.length + [32, 43, 32].length)).bind fun _ =>
    (sL1Pick r4.1 ([[97], [98], [99], [100], [101]] : List Str)).bind fun r5 =>
    (gd ((r4.2 ++ [32, 43, 32]).length + r5.2.length)).bind fun _ =>
    some (r5.1, (r4.2 ++ [32, 43, 32]) ++ r5.2)
  else
  bif (r1.2 == 2) then
    (sL1Pick r1.1 ([[97], [98], [99], [100], [101]] : List Str)).bind fun r6 =>
    (gd ([108, 101, 110, 40, 34, 97, 98, 34, 41, 32, 42, 32].length + r6.2.length)).bind fun _ =>
    some (r6.1, [108, 101, 110, 40, 34, 97, 98, 34, 41, 32, 42, 32] ++ r6.2)
  else
  bif (r1.2 == 3) then
    (sL1Below r1.1 3).bind fun r7 =>
    (sFormatInt r7.2).bind fun r8 =>
    (gd ([119, 104, 101, 114, 101, 40, 34, 97, 34, 44, 32].length + r8.length)).bind fun _ =>
    (gd (([119, 104, 101, 114, 101, 40, 34, 97, 34, 44, 32] ++ r8).length + [44, 32].length)).bind fun _ =>
    (sL1Pick r7.1 ([[97], [98], [99], [100], [101]] : List Str)).bind fun r9 =>
    (gd ((([119, 104, 101, 114, 101, 40, 34, 97, 34, 44, 32] ++ r8) ++ [44, 32]).length + r9.2.length)).bind fun _ =>
    (gd (((([119, 104, 101, 114, 101, 40, 34, 97, 34, 44, 32] ++ r8) ++ [44, 32]) ++ r9.2).length + [41].length)).bind fun _ =>
    some (r9.1, ((([119, 104, 101, 114, 101, 40, 34, 97, 34, 44, 32] ++ r8) ++ [44, 32]) ++ r9.2) ++ [41])
  else
  bif (r1.2 == 4) then
    (sL1Pick r1.1 ([[97], [98], [99], [100], [101]] : List Str)).bind fun r10 =>
    (gd ([103, 114, 111, 117, 112, 40, 34, 97, 34, 44, 32, 34, 98, 34, 44, 32].length + r10.2.length)).bind fun _ =>
    (gd (([103, 114, 111, 117, 112, 40, 34, 97, 34, 44, 32, 34, 98, 34, 44, 32] ++ r10.2).length + [41].length)).bind fun _ =>
    some (r10.1, ([103, 114, 111, 117, 112, 40, 34, 97, 34, 44, 32, 34, 98, 34, 44, 32] ++ r10.2) ++ [41])
  else
  bif (r1.2 == 5) then
    (sL1Pick r1.1 ([[99, 108, 111, 99, 107, 40, 41], [99, 104, 97, 110, 99, 101, 40, 54, 41], [102, 105, 108, 101, 40, 34, 102, 34, 41], [99, 104, 97, 110, 99, 101, 40, 51, 41, 32, 43, 32, 99, 104, 97, 110, 99, 101, 40, 51, 41], [99, 108, 111, 99, 107, 40, 41, 32, 43, 32, 97]] : List Str)).bind fun r11 =>
    some (r11.1, r11.2)
  else
  bif (r1.2 == 6) then
    (sL1Pick r1.1 ([[49, 32, 43], [108, 101, 116, 32, 120, 32, 61, 32, 105, 110, 32, 50], [115, 117, 109, 40, 91, 49, 44, 32, 50, 93], [55], [105, 102, 32, 97, 32, 60, 32, 51, 32, 116, 104, 101, 110, 32, 98, 32, 101, 108, 115, 101, 32, 99], [102, 111, 114, 32, 117, 32, 105, 110, 32, 91, 49, 44, 32, 50, 44, 32, 51, 93, 32, 100, 111, 32, 117, 32, 42, 32, 97], [106, 111, 105, 110, 40, 34, 97, 34, 44, 32, 100, 44, 32, 101, 41], [115, 117, 109, 40, 99, 111, 108, 117, 109, 110, 40, 34, 98, 34, 44, 32, 100, 41, 41], [108, 101, 116, 32, 97, 32, 61, 32, 52, 32, 105, 110, 32, 97, 32, 43, 32, 98]] : List Str)).bind fun r12 =>
    some (r12.1, r12.2)
  else
    (sL10Make r1.1 ([[97], [98], [99], [100], [101]] : List Str) 2).bind fun r13 =>
    (sFormatExpr (reExpr r13.2)).bind fun r14 =>
    bif (decide ((r14.length : Int) > 120)) then
      some (r13.1, [49])
    else
      some (r13.1, r14)
noncomputable def sL17ExprFS : Fsp := { fid := 118, ps := [⟨true, .base .cur⟩], rs := [⟨true, .base .cur⟩, ⟨false, .base .str⟩], ex := false, fn := fun x => sL17Expr x }
noncomputable def sSplitByte (a : Str) (b : Int) : Option ((List Str)) :=
  loopD (fun (x1 : Str × Int × (List Str) × Int × Int) =>
    bif (decide (x1.2.2.2.2 ≤ (x1.1.length : Int))) then
      bif (x1.2.2.2.2 == (x1.1.length : Int)) then
        (eff.cutL x1.1 (some x1.2.2.2.1) (some x1.2.2.2.2)).bind fun r2 =>
        (gd (x1.2.2.1.length + ([r2] : List Str).length)).bind fun _ =>
        some (.inl (x1.1, x1.2.1, x1.2.2.1 ++ ([r2] : List Str), w64 (x1.2.2.2.2 + 1), w64 (x1.2.2.2.2 + 1)))
      else
        (idx x1.1 x1.2.2.2.2).bind fun c3 =>
        bif ((c3.toNat : Int) == x1.2.1) then
          (eff.cutL x1.1 (some x1.2.2.2.1) (some x1.2.2.2.2)).bind fun r4 =>
          (gd (x1.2.2.1.length + ([r4] : List Str).length)).bind fun _ =>
          some (.inl (x1.1, x1.2.1, x1.2.2.1 ++ ([r4] : List Str), w64 (x1.2.2.2.2 + 1), w64 (x1.2.2.2.2 + 1)))
        else
          some (.inl (x1.1, x1.2.1, x1.2.2.1, x1.2.2.2.1, w64 (x1.2.2.2.2 + 1)))
    else
      some (.inr (x1.2.2.1))
  ) (a, b, [], 0, 0)
noncomputable def sSplitByteFS : Fsp := { fid := 146, ps := [⟨false, .base .str⟩, ⟨false, .base .u8⟩], rs := [⟨false, .list (.base .str)⟩], ex := true, fn := fun x => sSplitByte x.1 x.2 }
noncomputable def sL1Turned (a : GCur) (b : Str) (c : List Str) : Option (GCur × Str) :=
  (sL1Below a (w64 ((b.length : Int) + 1))).bind fun r1 =>
  (sL1Below r1.1 6).bind fun r2 =>
  bif (r2.2 == 0) then
    (eff.cutL b none (some r1.2)).bind fun r3 =>
    (sL1Pick r2.1 c).bind fun r4 =>
    (gd (r3.length + r4.2.length)).bind fun _ =>
    (eff.cutL b (some r1.2) none).bind fun r5 =>
    (gd ((r3 ++ r4.2).length + r5.length)).bind fun _ =>
    some (r4.1, (r3 ++ r4.2) ++ r5)
  else
    bif (r2.2 == 1) then
      (eff.cutL b none (some r1.2)).bind fun r6 =>
      some (r2.1, r6)
    else
      some (r2.1, b)
noncomputable def sL1TurnedFS : Fsp := { fid := 148, ps := [⟨true, .base .cur⟩, ⟨false, .base .str⟩, ⟨false, .list (.base .str)⟩], rs := [⟨true, .base .cur⟩, ⟨false, .base .str⟩], ex := false, fn := fun x => sL1Turned x.1 x.2.1 x.2.2 }
noncomputable def sL17Data (a : GCur) : Option (GCur × Str) :=
  (sL1Pick a ([[97, 32, 98], [97, 32, 98], [97, 32, 98], [97, 32, 99], [98], [97, 32, 98, 32, 99]] : List Str)).bind fun r1 =>
  (sL1Below r1.1 4).bind fun r2 =>
  (sSplitByte r1.2 32).bind fun r3 =>
  loopD (fun (x4 : (List Int) × Int × Int × Str × Int × Int × Int) =>
    bif (decide (x4.2.2.2.2.2.2 < x4.2.2.2.2.1)) then
      loopD (fun (x5 : (List Int) × Int × Int × Str × Int × Int × Int × (List Str) × Int) =>
        bif (decide (x5.2.2.2.2.2.2.2.2 < x5.2.2.2.2.2.1)) then
          (sL1Below (GCur.mk x5.1 x5.2.1 x5.2.2.1) 4).bind fun r6 =>
          (sFormatInt r6.2).bind fun r7 =>
          (gd (x5.2.2.2.2.2.2.2.1.length + ([r7] : List Str).length)).bind fun _ =>
          some (.inl (r6.1.b, r6.1.i, r6.1.h, x5.2.2.2.1, x5.2.2.2.2.1, x5.2.2.2.2.2.1, x5.2.2.2.2.2.2.1, x5.2.2.2.2.2.2.2.1 ++ ([r7] : List Str), w64 (x5.2.2.2.2.2.2.2.2 + 1)))
        else
          (
            (gd (x5.2.2.2.1.length + [59, 32].length)).bind fun _ =>
            (sJoin x5.2.2.2.2.2.2.2.1 [32]).bind fun r8 =>
            (gd ((x5.2.2.2.1 ++ [59, 32]).length + r8.length)).bind fun _ =>
            some (.inl (x5.1, x5.2.1, x5.2.2.1, (x5.2.2.2.1 ++ [59, 32]) ++ r8, x5.2.2.2.2.1, x5.2.2.2.2.2.1, w64 (x5.2.2.2.2.2.2.1 + 1)))
          ).bind fun r => some (.inr r)
      ) (x4.1, x4.2.1, x4.2.2.1, x4.2.2.2.1, x4.2.2.2.2.1, x4.2.2.2.2.2.1, x4.2.2.2.2.2.2, [], 0)
    else
      (
        (sL1Once (GCur.mk x4.1 x4.2.1 x4.2.2.1) 12).bind fun r9 =>
        bif r9.2 then
          (sL1Turned r9.1 x4.2.2.2.1 ([[59], [32], [120], [59, 32, 49], [45]] : List Str)).bind fun r10 =>
          some (r10.1, r10.2)
        else
          some (r9.1, x4.2.2.2.1)
      ).bind fun r => some (.inr r)
  ) (r2.1.b, r2.1.i, r2.1.h, r1.2, r2.2, (r3.length : Int), 0)
noncomputable def sL17DataFS : Fsp := { fid := 129, ps := [⟨true, .base .cur⟩], rs := [⟨true, .base .cur⟩, ⟨false, .base .str⟩], ex := false, fn := fun x => sL17Data x }
noncomputable def sL17Cell (a : GCur) (b : Int) : Option (GCur × GCell) :=
  (sL1Below a 3).bind fun r1 =>
  (sL1PickInt r1.1 [1, 2, 2, 2, 2, 3, 4, 4]).bind fun r2 =>
  (sL1Pick r2.1 ([[97], [98], [99], [100], [101]] : List Str)).bind fun r3 =>
  bif (r2.2 == 1) then
    (sL1Pick r3.1 ([[65, 32, 104, 101, 97, 100, 105, 110, 103], [], [115, 101, 101, 32, 34, 97, 34, 32, 97, 110, 100, 32, 98]] : List Str)).bind fun r4 =>
    some (r4.1, GCell.mk b (w64 (1 + r1.2)) r2.2 [] r4.2 0)
  else
  bif (r2.2 == 2) then
    (sL17Expr r3.1).bind fun r5 =>
    some (r5.1, GCell.mk b (w64 (1 + r1.2)) r2.2 r3.2 r5.2 0)
  else
    bif (r2.2 == 3) then
      (sL1Below r3.1 9).bind fun r6 =>
      some (r6.1, GCell.mk b (w64 (1 + r1.2)) r2.2 r3.2 [] r6.2)
    else
      bif (r2.2 == 4) then
        (sL17Data r3.1).bind fun r7 =>
        some (r7.1, GCell.mk b (w64 (1 + r1.2)) r2.2 r3.2 r7.2 0)
      else
        some (r3.1, GCell.mk b (w64 (1 + r1.2)) r2.2 r3.2 [] 0)
noncomputable def sL17CellFS : Fsp := { fid := 117, ps := [⟨true, .base .cur⟩, ⟨false, .base .int⟩], rs := [⟨true, .base .cur⟩, ⟨true, .base .cell⟩], ex := false, fn := fun x => sL17Cell x.1 x.2 }
noncomputable def sL41Edit (a : GCur) : Option (GCur × GEdit) :=
  (sL1PickInt a [1, 1, 1, 4, 4, 4, 3, 2, 5, 6]).bind fun r1 =>
  (sL1Below r1.1 4).bind fun r2 =>
  (sL1Below r2.1 5).bind fun r3 =>
  (sL17Cell r3.1 (w64 (1 + r3.2))).bind fun r4 =>
  (idx ([[], [97], [98], [99], [100], [101]] : List Str) r4.2.id).bind fun _ =>
  (([[], [97], [98], [99], [100], [101]] : List Str)[r4.2.id.toNat]?).bind fun e6 =>
  bif (r4.2.kind == 1) then
    (sL17Expr r4.1).bind fun r7 =>
    some (r7.1, GEdit.mk r1.2 r2.2 (GCell.mk r4.2.id r4.2.version 2 e6 r7.2 r4.2.n))
  else
    some (r4.1, GEdit.mk r1.2 r2.2 (GCell.mk r4.2.id r4.2.version r4.2.kind e6 r4.2.code r4.2.n))
noncomputable def sL41EditFS : Fsp := { fid := 88, ps := [⟨true, .base .cur⟩], rs := [⟨true, .base .cur⟩, ⟨true, .base .edit⟩], ex := false, fn := fun x => sL41Edit x }
noncomputable def sL14Read (a : GCur) : Option (GCur × GRead) :=
  (sL1Below a 3).bind fun r1 =>
  (sL1Below r1.1 7).bind fun r2 =>
  (sL1Pick r2.1 ([[102], [103], [104], [122]] : List Str)).bind fun r3 =>
  (sL1Below r3.1 3).bind fun r4 =>
  some (r4.1, GRead.mk (w64 (1 + r1.2)) r2.2 r4.2 r3.2 (GVal.mk 0 0 0 [] [] [] []))
noncomputable def sL14ReadFS : Fsp := { fid := 119, ps := [⟨true, .base .cur⟩], rs := [⟨true, .base .cur⟩, ⟨true, .base .read⟩], ex := false, sh := true, fn := fun x => sL14Read x }
noncomputable def sNumberValue (a : Int) : Option (GVal) :=
  some (GVal.mk 1 a 0 [] [] [] [])
noncomputable def sNumberValueFS : Fsp := { fid := 120, ps := [⟨false, .base .int⟩], rs := [⟨true, .base .val⟩], ex := true, fn := fun x => sNumberValue x }
noncomputable def sL16Tape (a : GCur) : Option (GCur × (List GRead)) :=
  (sL1Below a 4).bind fun r1 =>
  loopD (fun (x2 : (List Int) × Int × Int × (List GRead) × Int × Int) =>
    bif (decide (x2.2.2.2.2.2 < x2.2.2.2.2.1)) then
      (sL14Read (GCur.mk x2.1 x2.2.1 x2.2.2.1)).bind fun r3 =>
      bif (r3.2.kind != 2) then
        bif (r3.2.kind != 3) then
          (sNumberValue (w64 (50 + x2.2.2.2.2.2))).bind fun r4 =>
          (gd (x2.2.2.2.1.length + ([GRead.mk r3.2.kind 0 r3.2.time [] (reVal r4)]).length)).bind fun _ =>
          some (.inl (r3.1.b, r3.1.i, r3.1.h, x2.2.2.2.1 ++ ([GRead.mk r3.2.kind 0 r3.2.time [] (reVal r4)]), x2.2.2.2.2.1, w64 (x2.2.2.2.2.2 + 1)))
        else
          (sNumberValue (w64 (50 + x2.2.2.2.2.2))).bind fun r5 =>
          (gd (x2.2.2.2.1.length + [GRead.mk r3.2.kind 0 r3.2.time r3.2.text (reVal r5)].length)).bind fun _ =>
          some (.inl (r3.1.b, r3.1.i, r3.1.h, x2.2.2.2.1 ++ [GRead.mk r3.2.kind 0 r3.2.time r3.2.text (reVal r5)], x2.2.2.2.2.1, w64 (x2.2.2.2.2.2 + 1)))
      else
        bif (r3.2.kind != 3) then
          (sNumberValue (w64 (50 + x2.2.2.2.2.2))).bind fun r6 =>
          (gd (x2.2.2.2.1.length + ([GRead.mk r3.2.kind r3.2.n r3.2.time [] (reVal r6)]).length)).bind fun _ =>
          some (.inl (r3.1.b, r3.1.i, r3.1.h, x2.2.2.2.1 ++ ([GRead.mk r3.2.kind r3.2.n r3.2.time [] (reVal r6)]), x2.2.2.2.2.1, w64 (x2.2.2.2.2.2 + 1)))
        else
          (sNumberValue (w64 (50 + x2.2.2.2.2.2))).bind fun r7 =>
          (gd (x2.2.2.2.1.length + [GRead.mk r3.2.kind r3.2.n r3.2.time r3.2.text (reVal r7)].length)).bind fun _ =>
          some (.inl (r3.1.b, r3.1.i, r3.1.h, x2.2.2.2.1 ++ [GRead.mk r3.2.kind r3.2.n r3.2.time r3.2.text (reVal r7)], x2.2.2.2.2.1, w64 (x2.2.2.2.2.2 + 1)))
    else
      some (.inr (GCur.mk x2.1 x2.2.1 x2.2.2.1, x2.2.2.2.1))
  ) (r1.1.b, r1.1.i, r1.1.h, [], r1.2, 0)
noncomputable def sL16TapeFS : Fsp := { fid := 91, ps := [⟨true, .base .cur⟩], rs := [⟨true, .base .cur⟩, ⟨false, .list (.base .read)⟩], ex := false, sh := true, fn := fun x => sL16Tape x }
noncomputable def sL41Make (a : GCur) (b : List GOp) (c : Int) : Option (GCur × GOp) :=
  (sLastTime b).bind fun r1 =>
  (sL1Below a 2).bind fun r2 =>
  (sL41Edit r2.1).bind fun r3 =>
  loopD (fun (x4 : (List Int) × Int × Int × (List GOp) × Int × Int × Int × (List Int) × Int × Int × Int × Int × Int × Str × Str × Int × Str × Str × Int × Int × (List GRead) × Int × Int × Int × (List Int) × Int × Int × Int × Int × Int × Str × Str × Int × Str × Str × Int × Int × (List GRead) × Int) =>
    bif (decide (x4.2.2.2.2.2.2.2.2.2.2.2.2.2.2.2.2.2.2.2.2.2.2.2.2.2.2.2.2.2.2.2.2.2.2.2.2.2.2 < 3)) then
      (sCountBy x4.2.2.2.1 x4.2.2.2.2.2.2.2.2.2.2.2.2.2.2.2.2.2.2.2.2.2.2.2.2.2.2.2.2.2.2.2.2.2.2.2.2.2.2).bind fun r5 =>
      (gd (x4.2.2.2.2.2.2.2.2.2.2.2.2.2.2.2.2.2.2.2.2.2.2.2.2.1.length + [r5].length)).bind fun _ =>
      some (.inl (x4.1, x4.2.1, x4.2.2.1, x4.2.2.2.1, x4.2.2.2.2.1, x4.2.2.2.2.2.1, x4.2.2.2.2.2.2.1, x4.2.2.2.2.2.2.2.1, x4.2.2.2.2.2.2.2.2.1, x4.2.2.2.2.2.2.2.2.2.1, x4.2.2.2.2.2.2.2.2.2.2.1, x4.2.2.2.2.2.2.2.2.2.2.2.1, x4.2.2.2.2.2.2.2.2.2.2.2.2.1, x4.2.2.2.2.2.2.2.2.2.2.2.2.2.1, x4.2.2.2.2.2.2.2.2.2.2.2.2.2.2.1, x4.2.2.2.2.2.2.2.2.2.2.2.2.2.2.2.1, x4.2.2.2.2.2.2.2.2.2.2.2.2.2.2.2.2.1, x4.2.2.2.2.2.2.2.2.2.2.2.2.2.2.2.2.2.1, x4.2.2.2.2.2.2.2.2.2.2.2.2.2.2.2.2.2.2.1, x4.2.2.2.2.2.2.2.2.2.2.2.2.2.2.2.2.2.2.2.1, x4.2.2.2.2.2.2.2.2.2.2.2.2.2.2.2.2.2.2.2.2.1, x4.2.2.2.2.2.2.2.2.2.2.2.2.2.2.2.2.2.2.2.2.2.1, x4.2.2.2.2.2.2.2.2.2.2.2.2.2.2.2.2.2.2.2.2.2.2.1, x4.2.2.2.2.2.2.2.2.2.2.2.2.2.2.2.2.2.2.2.2.2.2.2.1, x4.2.2.2.2.2.2.2.2.2.2.2.2.2.2.2.2.2.2.2.2.2.2.2.2.1 ++ [r5], x4.2.2.2.2.2.2.2.2.2.2.2.2.2.2.2.2.2.2.2.2.2.2.2.2.2.1, x4.2.2.2.2.2.2.2.2.2.2.2.2.2.2.2.2.2.2.2.2.2.2.2.2.2.2.1, x4.2.2.2.2.2.2.2.2.2.2.2.2.2.2.2.2.2.2.2.2.2.2.2.2.2.2.2.1, x4.2.2.2.2.2.2.2.2.2.2.2.2.2.2.2.2.2.2.2.2.2.2.2.2.2.2.2.2.1, x4.2.2.2.2.2.2.2.2.2.2.2.2.2.2.2.2.2.2.2.2.2.2.2.2.2.2.2.2.2.1, x4.2.2.2.2.2.2.2.2.2.2.2.2.2.2.2.2.2.2.2.2.2.2.2.2.2.2.2.2.2.2.1, x4.2.2.2.2.2.2.2.2.2.2.2.2.2.2.2.2.2.2.2.2.2.2.2.2.2.2.2.2.2.2.2.1, x4.2.2.2.2.2.2.2.2.2.2.2.2.2.2.2.2.2.2.2.2.2.2.2.2.2.2.2.2.2.2.2.2.1, x4.2.2.2.2.2.2.2.2.2.2.2.2.2.2.2.2.2.2.2.2.2.2.2.2.2.2.2.2.2.2.2.2.2.1, x4.2.2.2.2.2.2.2.2.2.2.2.2.2.2.2.2.2.2.2.2.2.2.2.2.2.2.2.2.2.2.2.2.2.2.1, x4.2.2.2.2.2.2.2.2.2.2.2.2.2.2.2.2.2.2.2.2.2.2.2.2.2.2.2.2.2.2.2.2.2.2.2.1, x4.2.2.2.2.2.2.2.2.2.2.2.2.2.2.2.2.2.2.2.2.2.2.2.2.2.2.2.2.2.2.2.2.2.2.2.2.1, x4.2.2.2.2.2.2.2.2.2.2.2.2.2.2.2.2.2.2.2.2.2.2.2.2.2.2.2.2.2.2.2.2.2.2.2.2.2.1, w64 (x4.2.2.2.2.2.2.2.2.2.2.2.2.2.2.2.2.2.2.2.2.2.2.2.2.2.2.2.2.2.2.2.2.2.2.2.2.2.2 + 1)))
    else
    (
      (sL1Below (GCur.mk x4.1 x4.2.1 x4.2.2.1) 8).bind fun r6 =>
      bif (r6.2 == 0) then
        (sL1Pick r6.1 ([[97], [98], [99]] : List Str)).bind fun r7 =>
        (sL1Pick r7.1 ([[120], [121], [116, 111, 116, 97, 108]] : List Str)).bind fun r8 =>
        some (r8.1, GOp.mk x4.2.2.2.2.2.2.2.2.2.2.2.2.2.2.2.2.2.2.2.2.2.1 x4.2.2.2.2.2.2.2.2.2.2.2.2.2.2.2.2.2.2.2.2.2.2.1 2 x4.2.2.2.2.2.2.2.2.2.2.2.2.2.2.2.2.2.2.2.2.2.2.2.2.1 (GEdit.mk 0 0 (GCell.mk 0 0 0 [] [] 0)) r7.2 r8.2 x4.2.2.2.2.2.2.2.2.2.2.2.2.2.2.2.2.2.2.2.2.2.2.2.2.2.2.2.2.2.2.2.2.2.2.2.1 x4.2.2.2.2.2.2.2.2.2.2.2.2.2.2.2.2.2.2.2.2.2.2.2.2.2.2.2.2.2.2.2.2.2.2.2.2.1 x4.2.2.2.2.2.2.2.2.2.2.2.2.2.2.2.2.2.2.2.2.2.2.2.2.2.2.2.2.2.2.2.2.2.2.2.2.2.1)
      else
      bif (r6.2 == 1) then
        (sL1Pick r6.1 ([[97], [98], [99]] : List Str)).bind fun r9 =>
        (sL1Pick r9.1 ([[120], [121], [116, 111, 116, 97, 108]] : List Str)).bind fun r10 =>
        some (r10.1, GOp.mk x4.2.2.2.2.2.2.2.2.2.2.2.2.2.2.2.2.2.2.2.2.2.1 x4.2.2.2.2.2.2.2.2.2.2.2.2.2.2.2.2.2.2.2.2.2.2.1 2 x4.2.2.2.2.2.2.2.2.2.2.2.2.2.2.2.2.2.2.2.2.2.2.2.2.1 (GEdit.mk 0 0 (GCell.mk 0 0 0 [] [] 0)) r9.2 r10.2 x4.2.2.2.2.2.2.2.2.2.2.2.2.2.2.2.2.2.2.2.2.2.2.2.2.2.2.2.2.2.2.2.2.2.2.2.1 x4.2.2.2.2.2.2.2.2.2.2.2.2.2.2.2.2.2.2.2.2.2.2.2.2.2.2.2.2.2.2.2.2.2.2.2.2.1 x4.2.2.2.2.2.2.2.2.2.2.2.2.2.2.2.2.2.2.2.2.2.2.2.2.2.2.2.2.2.2.2.2.2.2.2.2.2.1)
      else
        bif (r6.2 == 2) then
          (sL1Below r6.1 5).bind fun r11 =>
          (sL1Below r11.1 20).bind fun r12 =>
          (sL16Tape r12.1).bind fun r13 =>
          some (r13.1, GOp.mk x4.2.2.2.2.2.2.2.2.2.2.2.2.2.2.2.2.2.2.2.2.2.1 x4.2.2.2.2.2.2.2.2.2.2.2.2.2.2.2.2.2.2.2.2.2.2.1 3 x4.2.2.2.2.2.2.2.2.2.2.2.2.2.2.2.2.2.2.2.2.2.2.2.2.1 (GEdit.mk 0 0 (GCell.mk 0 0 0 [] [] 0)) x4.2.2.2.2.2.2.2.2.2.2.2.2.2.2.2.2.2.2.2.2.2.2.2.2.2.2.2.2.2.2.2.2.2.1 x4.2.2.2.2.2.2.2.2.2.2.2.2.2.2.2.2.2.2.2.2.2.2.2.2.2.2.2.2.2.2.2.2.2.2.1 (w64 (1 + r11.2)) (w64 (3 + r12.2)) r13.2)
        else
          some (r6.1, GOp.mk x4.2.2.2.2.2.2.2.2.2.2.2.2.2.2.2.2.2.2.2.2.2.1 x4.2.2.2.2.2.2.2.2.2.2.2.2.2.2.2.2.2.2.2.2.2.2.1 x4.2.2.2.2.2.2.2.2.2.2.2.2.2.2.2.2.2.2.2.2.2.2.2.1 x4.2.2.2.2.2.2.2.2.2.2.2.2.2.2.2.2.2.2.2.2.2.2.2.2.1 (GEdit.mk x4.2.2.2.2.2.2.2.2.2.2.2.2.2.2.2.2.2.2.2.2.2.2.2.2.2.1 x4.2.2.2.2.2.2.2.2.2.2.2.2.2.2.2.2.2.2.2.2.2.2.2.2.2.2.1 (GCell.mk x4.2.2.2.2.2.2.2.2.2.2.2.2.2.2.2.2.2.2.2.2.2.2.2.2.2.2.2.1 x4.2.2.2.2.2.2.2.2.2.2.2.2.2.2.2.2.2.2.2.2.2.2.2.2.2.2.2.2.1 x4.2.2.2.2.2.2.2.2.2.2.2.2.2.2.2.2.2.2.2.2.2.2.2.2.2.2.2.2.2.1 x4.2.2.2.2.2.2.2.2.2.2.2.2.2.2.2.2.2.2.2.2.2.2.2.2.2.2.2.2.2.2.1 x4.2.2.2.2.2.2.2.2.2.2.2.2.2.2.2.2.2.2.2.2.2.2.2.2.2.2.2.2.2.2.2.1 x4.2.2.2.2.2.2.2.2.2.2.2.2.2.2.2.2.2.2.2.2.2.2.2.2.2.2.2.2.2.2.2.2.1)) x4.2.2.2.2.2.2.2.2.2.2.2.2.2.2.2.2.2.2.2.2.2.2.2.2.2.2.2.2.2.2.2.2.2.1 x4.2.2.2.2.2.2.2.2.2.2.2.2.2.2.2.2.2.2.2.2.2.2.2.2.2.2.2.2.2.2.2.2.2.2.1 x4.2.2.2.2.2.2.2.2.2.2.2.2.2.2.2.2.2.2.2.2.2.2.2.2.2.2.2.2.2.2.2.2.2.2.2.1 x4.2.2.2.2.2.2.2.2.2.2.2.2.2.2.2.2.2.2.2.2.2.2.2.2.2.2.2.2.2.2.2.2.2.2.2.2.1 x4.2.2.2.2.2.2.2.2.2.2.2.2.2.2.2.2.2.2.2.2.2.2.2.2.2.2.2.2.2.2.2.2.2.2.2.2.2.1)
    ).bind fun r => some (.inr r)
  ) (r3.1.b, r3.1.i, r3.1.h, b, 0, 0, 0, [], 0, 0, 0, 0, 0, [], [], 0, [], [], 0, 0, [], w64 ((w64 (r1 + 1)) + r2.2), c, 1, [], r3.2.kind, r3.2.pos, r3.2.cell.id, r3.2.cell.version, r3.2.cell.kind, r3.2.cell.name, r3.2.cell.code, r3.2.cell.n, [], [], 0, 0, [], 0)
noncomputable def sL41MakeFS : Fsp := { fid := 59, ps := [⟨true, .base .cur⟩, ⟨false, .list (.base .op)⟩, ⟨false, .base .int⟩], rs := [⟨true, .base .cur⟩, ⟨true, .base .op⟩], ex := false, sh := true, fn := fun x => sL41Make x.1 x.2.1 x.2.2 }
noncomputable def sL43Net (a : GCur) (b : Int) : Option (GCur × (List GReplica)) :=
  loopD (fun (x1 : (List Int) × Int × Int × Int × (List GReplica) × Int) =>
    bif (decide (x1.2.2.2.2.2 < 3)) then
      (sNewReplica x1.2.2.2.2.2).bind fun r2 =>
      (gd (x1.2.2.2.2.1.length + [r2.1].length)).bind fun _ =>
      some (.inl (x1.1, x1.2.1, x1.2.2.1, x1.2.2.2.1, x1.2.2.2.2.1 ++ [r2.1], w64 (x1.2.2.2.2.2 + 1)))
    else
    (
      (sL1Below (GCur.mk x1.1 x1.2.1 x1.2.2.1) (w64 (x1.2.2.2.1 + 1))).bind fun r3 =>
      loopD (fun (x4 : (List Int) × Int × Int × (List GReplica) × Int × Int) =>
        bif (decide (x4.2.2.2.2.2 < x4.2.2.2.2.1)) then
          (sL1Below (GCur.mk x4.1 x4.2.1 x4.2.2.1) 3).bind fun r5 =>
          (sL1Once r5.1 3).bind fun r6 =>
          bif r6.2 then
            (idx x4.2.2.2.1 r5.2).bind fun _ =>
            (x4.2.2.2.1[r5.2.toNat]?).bind fun e8 =>
            (sL1Below r6.1 2).bind fun r9 =>
            (idx x4.2.2.2.1 ((w64 ((w64 (r5.2 + 1)) + r9.2)).tmod 3)).bind fun _ =>
            (x4.2.2.2.1[((w64 ((w64 (r5.2 + 1)) + r9.2)).tmod 3).toNat]?).bind fun e11 =>
            (sPull e8 e11).bind fun r12 =>
            (idx x4.2.2.2.1 r5.2).bind fun _ =>
            (x4.2.2.2.1[r5.2.toNat]?).bind fun e14 =>
            some (.inl (r9.1.b, r9.1.i, r9.1.h, x4.2.2.2.1.set r5.2.toNat r12.1, x4.2.2.2.2.1, w64 (x4.2.2.2.2.2 + 1)))
          else
          (idx x4.2.2.2.1 r5.2).bind fun _ =>
          (x4.2.2.2.1[r5.2.toNat]?).bind fun e16 =>
          (idx x4.2.2.2.1 r5.2).bind fun _ =>
          (x4.2.2.2.1[r5.2.toNat]?).bind fun e18 =>
          (sL41Make r6.1 e18.ops r5.2).bind fun r19 =>
          (sAddOp e16 r19.2).bind fun r20 =>
          (idx x4.2.2.2.1 r5.2).bind fun _ =>
          (x4.2.2.2.1[r5.2.toNat]?).bind fun e22 =>
          some (.inl (r19.1.b, r19.1.i, r19.1.h, x4.2.2.2.1.set r5.2.toNat r20.1, x4.2.2.2.2.1, w64 (x4.2.2.2.2.2 + 1)))
        else
          some (.inr (GCur.mk x4.1 x4.2.1 x4.2.2.1, x4.2.2.2.1))
      ) (r3.1.b, r3.1.i, r3.1.h, x1.2.2.2.2.1, r3.2, 0)
    ).bind fun r => some (.inr r)
  ) (a.b, a.i, a.h, b, [], 0)
noncomputable def sL43NetFS : Fsp := { fid := 30, ps := [⟨true, .base .cur⟩, ⟨false, .base .int⟩], rs := [⟨true, .base .cur⟩, ⟨false, .list (.base .replica)⟩], ex := false, sh := true, fn := fun x => sL43Net x.1 x.2 }
noncomputable def sDrawMergeOps (a : List Int) : Option ((List GOp) × (List GOp)) :=
  (sL1New a).bind fun r1 =>
  (sL43Net r1 14).bind fun r2 =>
  (idx r2.2 0).bind fun _ =>
  (r2.2[0]?).bind fun e4 =>
  (idx r2.2 1).bind fun _ =>
  (r2.2[1]?).bind fun e6 =>
  some (e4.ops, e6.ops)
noncomputable def sDrawMergeOpsFS : Fsp := { fid := 13, ps := [⟨false, .list (.base .u8)⟩], rs := [⟨false, .list (.base .op)⟩, ⟨false, .list (.base .op)⟩], ex := false, fn := fun x => sDrawMergeOps x }
noncomputable def sL1Ints (a : List Int) (b : List Int) : Option (Bool) :=
  bif ((a.length : Int) != (b.length : Int)) then
    some (false)
  else
  loopD (fun (x1 : (List Int) × (List Int) × Int) =>
    bif (decide (x1.2.2 < (x1.1.length : Int))) then
      (idx x1.1 x1.2.2).bind fun e2 =>
      (idx x1.2.1 x1.2.2).bind fun e3 =>
      bif (e2 != e3) then
        some (.inr (false))
      else
        some (.inl (x1.1, x1.2.1, w64 (x1.2.2 + 1)))
    else
      some (.inr (true))
  ) (a, b, 0)
noncomputable def sL1IntsFS : Fsp := { fid := 65, ps := [⟨false, .list (.base .int)⟩, ⟨false, .list (.base .int)⟩], rs := [⟨false, .base .bool⟩], ex := true, fn := fun x => sL1Ints x.1 x.2 }
noncomputable def sL16Same (a : GRead) (b : GRead) : Option (Bool) :=
  bif (a.kind == b.kind) then
    bif (a.n == b.n) then
      bif (a.text == b.text) then
        some ((a.time == b.time))
      else
        some (false)
    else
      some (false)
  else
    some (false)
noncomputable def sL16SameFS : Fsp := { fid := 104, ps := [⟨true, .base .read⟩, ⟨true, .base .read⟩], rs := [⟨false, .base .bool⟩], ex := true, fn := fun x => sL16Same x.1 x.2 }
noncomputable def sL3Texts (a : List Str) (b : List Str) : Option (Bool) :=
  bif ((a.length : Int) != (b.length : Int)) then
    some (false)
  else
  loopD (fun (x1 : (List Str) × (List Str) × Int) =>
    bif (decide (x1.2.2 < (x1.1.length : Int))) then
      (idx x1.1 x1.2.2).bind fun e2 =>
      (idx x1.2.1 x1.2.2).bind fun e3 =>
      bif (!(e2 == e3)) then
        some (.inr (false))
      else
        some (.inl (x1.1, x1.2.1, w64 (x1.2.2 + 1)))
    else
      some (.inr (true))
  ) (a, b, 0)
noncomputable def sL3TextsFS : Fsp := { fid := 134, ps := [⟨false, .list (.base .str)⟩, ⟨false, .list (.base .str)⟩], rs := [⟨false, .base .bool⟩], ex := true, fn := fun x => sL3Texts x.1 x.2 }
noncomputable def sL3Origins (a : List GOrigin) (b : List GOrigin) : Option (Bool) :=
  bif ((a.length : Int) != (b.length : Int)) then
    some (false)
  else
  loopD (fun (x1 : (List GOrigin) × (List GOrigin) × Int) =>
    bif (decide (x1.2.2 < (x1.1.length : Int))) then
      (idx x1.1 x1.2.2).bind fun e2 =>
      (idx x1.2.1 x1.2.2).bind fun e3 =>
      bif (!((e2.cell == e3.cell) && (e2.row == e3.row))) then
        some (.inr (false))
      else
        some (.inl (x1.1, x1.2.1, w64 (x1.2.2 + 1)))
    else
      some (.inr (true))
  ) (a, b, 0)
noncomputable def sL3OriginsFS : Fsp := { fid := 135, ps := [⟨false, .list (.base .origin)⟩, ⟨false, .list (.base .origin)⟩], rs := [⟨false, .base .bool⟩], ex := true, fn := fun x => sL3Origins x.1 x.2 }
noncomputable def sL3SameB (rsL3Same : GVal → GVal → Bool → Option (Bool)) (a : GVal) (b : GVal) (c : Bool) : Option (Bool) :=
  bif (a.kind != b.kind) then
    some (false)
  else
  bif (a.n != b.n) then
    some (false)
  else
  bif (a.step != b.step) then
    some (false)
  else
  bif (!(a.text == b.text)) then
    some (false)
  else
  bif ((a.list.length : Int) != (b.list.length : Int)) then
    some (false)
  else
  (sL3Texts a.columns b.columns).bind fun r1 =>
  bif (!r1) then
    some (false)
  else
  bif ((a.rows.length : Int) != (b.rows.length : Int)) then
    some (false)
  else
  loopD (fun (x2 : Bool × Int × Int × Int × Str × (List GVal) × (List Str) × (List GRow) × Int × Int × Int × Str × (List GVal) × (List Str) × (List GRow) × Int) =>
    bif (decide (x2.2.2.2.2.2.2.2.2.2.2.2.2.2.2.2 < (x2.2.2.2.2.2.1.length : Int))) then
      (idx x2.2.2.2.2.2.1 x2.2.2.2.2.2.2.2.2.2.2.2.2.2.2.2).bind fun e3 =>
      (idx x2.2.2.2.2.2.2.2.2.2.2.2.2.1 x2.2.2.2.2.2.2.2.2.2.2.2.2.2.2.2).bind fun e4 =>
      (rsL3Same (reVal e3) (reVal e4) x2.1).bind fun r5 =>
      bif (!r5) then
        some (.inr (false))
      else
        some (.inl (x2.1, x2.2.1, x2.2.2.1, x2.2.2.2.1, x2.2.2.2.2.1, x2.2.2.2.2.2.1, x2.2.2.2.2.2.2.1, x2.2.2.2.2.2.2.2.1, x2.2.2.2.2.2.2.2.2.1, x2.2.2.2.2.2.2.2.2.2.1, x2.2.2.2.2.2.2.2.2.2.2.1, x2.2.2.2.2.2.2.2.2.2.2.2.1, x2.2.2.2.2.2.2.2.2.2.2.2.2.1, x2.2.2.2.2.2.2.2.2.2.2.2.2.2.1, x2.2.2.2.2.2.2.2.2.2.2.2.2.2.2.1, w64 (x2.2.2.2.2.2.2.2.2.2.2.2.2.2.2.2 + 1)))
    else
    (
      loopD (fun (x6 : Bool × Int × Int × Int × Str × (List GVal) × (List Str) × (List GRow) × Int × Int × Int × Str × (List GVal) × (List Str) × (List GRow) × Int) =>
        bif (decide (x6.2.2.2.2.2.2.2.2.2.2.2.2.2.2.2 < (x6.2.2.2.2.2.2.2.1.length : Int))) then
          (idx x6.2.2.2.2.2.2.2.1 x6.2.2.2.2.2.2.2.2.2.2.2.2.2.2.2).bind fun e7 =>
          (idx x6.2.2.2.2.2.2.2.2.2.2.2.2.2.2.1 x6.2.2.2.2.2.2.2.2.2.2.2.2.2.2.2).bind fun e8 =>
          (sL1Ints e7.cells e8.cells).bind fun r9 =>
          bif (!r9) then
            some (.inr (false))
          else
          bif x6.1 then
            (idx x6.2.2.2.2.2.2.2.1 x6.2.2.2.2.2.2.2.2.2.2.2.2.2.2.2).bind fun e10 =>
            (idx x6.2.2.2.2.2.2.2.2.2.2.2.2.2.2.1 x6.2.2.2.2.2.2.2.2.2.2.2.2.2.2.2).bind fun e11 =>
            (sL3Origins e10.orig e11.orig).bind fun r12 =>
            bif (!r12) then
              some (.inr (false))
            else
              some (.inl (x6.1, x6.2.1, x6.2.2.1, x6.2.2.2.1, x6.2.2.2.2.1, x6.2.2.2.2.2.1, x6.2.2.2.2.2.2.1, x6.2.2.2.2.2.2.2.1, x6.2.2.2.2.2.2.2.2.1, x6.2.2.2.2.2.2.2.2.2.1, x6.2.2.2.2.2.2.2.2.2.2.1, x6.2.2.2.2.2.2.2.2.2.2.2.1, x6.2.2.2.2.2.2.2.2.2.2.2.2.1, x6.2.2.2.2.2.2.2.2.2.2.2.2.2.1, x6.2.2.2.2.2.2.2.2.2.2.2.2.2.2.1, w64 (x6.2.2.2.2.2.2.2.2.2.2.2.2.2.2.2 + 1)))
          else
            some (.inl (x6.1, x6.2.1, x6.2.2.1, x6.2.2.2.1, x6.2.2.2.2.1, x6.2.2.2.2.2.1, x6.2.2.2.2.2.2.1, x6.2.2.2.2.2.2.2.1, x6.2.2.2.2.2.2.2.2.1, x6.2.2.2.2.2.2.2.2.2.1, x6.2.2.2.2.2.2.2.2.2.2.1, x6.2.2.2.2.2.2.2.2.2.2.2.1, x6.2.2.2.2.2.2.2.2.2.2.2.2.1, x6.2.2.2.2.2.2.2.2.2.2.2.2.2.1, x6.2.2.2.2.2.2.2.2.2.2.2.2.2.2.1, w64 (x6.2.2.2.2.2.2.2.2.2.2.2.2.2.2.2 + 1)))
        else
          some (.inr (true))
      ) (x2.1, x2.2.1, x2.2.2.1, x2.2.2.2.1, x2.2.2.2.2.1, x2.2.2.2.2.2.1, x2.2.2.2.2.2.2.1, x2.2.2.2.2.2.2.2.1, x2.2.2.2.2.2.2.2.2.1, x2.2.2.2.2.2.2.2.2.2.1, x2.2.2.2.2.2.2.2.2.2.2.1, x2.2.2.2.2.2.2.2.2.2.2.2.1, x2.2.2.2.2.2.2.2.2.2.2.2.2.1, x2.2.2.2.2.2.2.2.2.2.2.2.2.2.1, x2.2.2.2.2.2.2.2.2.2.2.2.2.2.2.1, 0)
    ).bind fun r => some (.inr r)
  ) (c, a.kind, a.n, a.step, a.text, a.list, a.columns, a.rows, b.kind, b.n, b.step, b.text, b.list, b.columns, b.rows, 0)
noncomputable def sL3SameG : Nat → (GVal → GVal → Bool → Option (Bool))
  | 0 => fun _ _ _ => none
  | n + 1 => sL3SameB (sL3SameG n)
noncomputable def sL3Same (a : GVal) (b : GVal) (c : Bool) : Option (Bool) := (sL3SameG (siz a + siz b + 1)) a b c
noncomputable def sL3SameFS : Fsp := { fid := 124, ps := [⟨true, .base .val⟩, ⟨true, .base .val⟩, ⟨false, .base .bool⟩], rs := [⟨false, .base .bool⟩], ex := true, fn := fun x => sL3Same x.1 x.2.1 x.2.2 }
noncomputable def sL3SameFSN (n : Nat) : Fsp := { fid := 124, ps := [⟨true, .base .val⟩, ⟨true, .base .val⟩, ⟨false, .base .bool⟩], rs := [⟨false, .base .bool⟩], ex := true, fn := fun x => (sL3SameG n) x.1 x.2.1 x.2.2 }
noncomputable def sEqualValue (a : GVal) (b : GVal) : Option (Bool) :=
  (sL3Same (reVal a) (reVal b) true).bind fun r1 =>
  some (r1)
noncomputable def sEqualValueFS : Fsp := { fid := 105, ps := [⟨true, .base .val⟩, ⟨true, .base .val⟩], rs := [⟨false, .base .bool⟩], ex := true, fn := fun x => sEqualValue x.1 x.2 }
noncomputable def sL41Same (a : List GRead) (b : List GRead) : Option (Bool) :=
  bif ((a.length : Int) != (b.length : Int)) then
    some (false)
  else
  loopD (fun (x1 : (List GRead) × (List GRead) × Int) =>
    bif (decide (x1.2.2 < (x1.1.length : Int))) then
      (idx x1.1 x1.2.2).bind fun e2 =>
      (idx x1.2.1 x1.2.2).bind fun e3 =>
      (sL16Same (reRead e2) (reRead e3)).bind fun r4 =>
      bif (!r4) then
        some (.inr (false))
      else
        (idx x1.1 x1.2.2).bind fun e5 =>
        (idx x1.2.1 x1.2.2).bind fun e6 =>
        (sEqualValue (reVal e5.result) (reVal e6.result)).bind fun r7 =>
        bif (!r7) then
          some (.inr (false))
        else
          some (.inl (x1.1, x1.2.1, w64 (x1.2.2 + 1)))
    else
      some (.inr (true))
  ) (a, b, 0)
noncomputable def sL41SameFS : Fsp := { fid := 66, ps := [⟨false, .list (.base .read)⟩, ⟨false, .list (.base .read)⟩], rs := [⟨false, .base .bool⟩], ex := true, fn := fun x => sL41Same x.1 x.2 }
noncomputable def sEqualOp (a : GOp) (b : GOp) : Option (Bool) :=
  bif (a.time != b.time) then
    some (false)
  else
  bif (a.by_ != b.by_) then
    some (false)
  else
  bif (a.kind != b.kind) then
    some (false)
  else
  (sL1Ints a.seen b.seen).bind fun r1 =>
  bif (!r1) then
    some (false)
  else
  bif (!((a.edit.kind == b.edit.kind) && ((a.edit.pos == b.edit.pos) && ((a.edit.cell.id == b.edit.cell.id) && ((a.edit.cell.version == b.edit.cell.version) && ((a.edit.cell.kind == b.edit.cell.kind) && ((a.edit.cell.name == b.edit.cell.name) && ((a.edit.cell.code == b.edit.cell.code) && (a.edit.cell.n == b.edit.cell.n))))))))) then
    some (false)
  else
  bif (a.src == b.src) then
    bif (a.dst == b.dst) then
      bif (a.cell == b.cell) then
        bif (a.version == b.version) then
          (sL41Same a.reads b.reads).bind fun r2 =>
          some (r2)
        else
          some (false)
      else
        some (false)
    else
      some (false)
  else
    some (false)
noncomputable def sEqualOpFS : Fsp := { fid := 35, ps := [⟨true, .base .op⟩, ⟨true, .base .op⟩], rs := [⟨false, .base .bool⟩], ex := true, fn := fun x => sEqualOp x.1 x.2 }
noncomputable def sameOps (a : List GOp) (b : List GOp) : Option (Bool) :=
  bif ((a.length : Int) != (b.length : Int)) then
    some (false)
  else
  loopD (fun (x1 : (List GOp) × (List GOp) × Int) =>
    bif (decide (x1.2.2 < (x1.1.length : Int))) then
      (idx x1.1 x1.2.2).bind fun e2 =>
      (idx x1.2.1 x1.2.2).bind fun e3 =>
      (sEqualOp e2 e3).bind fun r4 =>
      bif (!r4) then
        some (.inr (false))
      else
        some (.inl (x1.1, x1.2.1, w64 (x1.2.2 + 1)))
    else
      some (.inr (true))
  ) (a, b, 0)
noncomputable def sameOpsFS : Fsp := { fid := 15, ps := [⟨false, .list (.base .op)⟩, ⟨false, .list (.base .op)⟩], rs := [⟨false, .base .bool⟩], ex := true, fn := fun x => sameOps x.1 x.2 }
noncomputable def sL41Log (a : GCur) (b : Int) : Option (GCur × (List GOp)) :=
  (sL1Below a (w64 (b + 1))).bind fun r1 =>
  loopD (fun (x2 : (List Int) × Int × Int × (List GOp) × Int × Int) =>
    bif (decide (x2.2.2.2.2.2 < x2.2.2.2.2.1)) then
      (sL1Once (GCur.mk x2.1 x2.2.1 x2.2.2.1) 2).bind fun r3 =>
      bif r3.2 then
        (sL1Below r3.1 (w64 ((x2.2.2.2.1.length : Int) + 1))).bind fun r4 =>
        (eff.cutL x2.2.2.2.1 none (some r4.2)).bind fun r5 =>
        (sL1Below r4.1 3).bind fun r6 =>
        (sL41Make r6.1 r5 r6.2).bind fun r7 =>
        (sMergeOps x2.2.2.2.1 [r7.2]).bind fun r8 =>
        some (.inl (r7.1.b, r7.1.i, r7.1.h, r8, x2.2.2.2.2.1, w64 (x2.2.2.2.2.2 + 1)))
      else
        (sL1Below r3.1 3).bind fun r9 =>
        (sL41Make r9.1 x2.2.2.2.1 r9.2).bind fun r10 =>
        (sMergeOps x2.2.2.2.1 [r10.2]).bind fun r11 =>
        some (.inl (r10.1.b, r10.1.i, r10.1.h, r11, x2.2.2.2.2.1, w64 (x2.2.2.2.2.2 + 1)))
    else
      some (.inr (GCur.mk x2.1 x2.2.1 x2.2.2.1, x2.2.2.2.1))
  ) (r1.1.b, r1.1.i, r1.1.h, [], r1.2, 0)
noncomputable def sL41LogFS : Fsp := { fid := 42, ps := [⟨true, .base .cur⟩, ⟨false, .base .int⟩], rs := [⟨true, .base .cur⟩, ⟨false, .list (.base .op)⟩], ex := false, sh := true, fn := fun x => sL41Log x.1 x.2 }
noncomputable def sL41Bent (a : GCur) : Option (GCur × GOp) :=
  (sL41Log a 3).bind fun r1 =>
  (sL1Below r1.1 3).bind fun r2 =>
  (sL41Make r2.1 r1.2 r2.2).bind fun r3 =>
  (sL1Below r3.1 10).bind fun r4 =>
  bif (r4.2 == 0) then
    (sL1PickInt r4.1 [0, 300, 301]).bind fun r5 =>
    some (r5.1, GOp.mk r5.2 r3.2.by_ r3.2.kind r3.2.seen r3.2.edit r3.2.src r3.2.dst r3.2.cell r3.2.version r3.2.reads)
  else
  bif (r4.2 == 1) then
    (sL1PickInt r4.1 [-1, 3]).bind fun r6 =>
    some (r6.1, GOp.mk r3.2.time r6.2 r3.2.kind r3.2.seen r3.2.edit r3.2.src r3.2.dst r3.2.cell r3.2.version r3.2.reads)
  else
  bif (r4.2 == 2) then
    (gd (r3.2.seen.length + [0].length)).bind fun _ =>
    some (r4.1, GOp.mk r3.2.time r3.2.by_ r3.2.kind (r3.2.seen ++ [0]) r3.2.edit r3.2.src r3.2.dst r3.2.cell r3.2.version r3.2.reads)
  else
  bif (r4.2 == 3) then
    (sL1Below r4.1 5).bind fun r7 =>
    some (r7.1, GOp.mk r3.2.time r3.2.by_ r7.2 r3.2.seen r3.2.edit r3.2.src r3.2.dst r3.2.cell r3.2.version r3.2.reads)
  else
  bif (r4.2 == 4) then
    (sL1PickInt r4.1 [-1, 60, 61]).bind fun r8 =>
    (idx r3.2.seen 0).bind fun _ =>
    (r3.2.seen[0]?).bind fun e10 =>
    some (r8.1, GOp.mk r3.2.time r3.2.by_ r3.2.kind (r3.2.seen.set 0 r8.2) r3.2.edit r3.2.src r3.2.dst r3.2.cell r3.2.version r3.2.reads)
  else
    bif (r4.2 == 5) then
      some (r4.1, GOp.mk r3.2.time r3.2.by_ r3.2.kind r3.2.seen r3.2.edit r3.2.src [121] r3.2.cell r3.2.version r3.2.reads)
    else
      some (r4.1, r3.2)
noncomputable def sL41BentFS : Fsp := { fid := 68, ps := [⟨true, .base .cur⟩], rs := [⟨true, .base .cur⟩, ⟨true, .base .op⟩], ex := false, sh := true, fn := fun x => sL41Bent x }
noncomputable def sDrawIsValidLog (a : List Int) : Option ((List GOp)) :=
  (sL1New a).bind fun r1 =>
  (sL41Log r1 6).bind fun r2 =>
  bif (decide ((r2.2.length : Int) > 1)) then
    (sL1Once r2.1 4).bind fun r3 =>
    bif r3.2 then
      (idx r2.2 0).bind fun _ =>
      (r2.2[0]?).bind fun e5 =>
      (idx r2.2 1).bind fun _ =>
      (r2.2[1]?).bind fun e7 =>
      (idx r2.2 0).bind fun _ =>
      (r2.2[0]?).bind fun e9 =>
      (idx (r2.2.set 0 e7) 1).bind fun _ =>
      ((r2.2.set 0 e7)[1]?).bind fun e11 =>
      (sL1Once r3.1 10).bind fun r12 =>
      bif r12.2 then
        (sL41Bent r12.1).bind fun r13 =>
        (gd (((r2.2.set 0 e7).set 1 e5).length + [r13.2].length)).bind fun _ =>
        some (((r2.2.set 0 e7).set 1 e5) ++ [r13.2])
      else
        some ((r2.2.set 0 e7).set 1 e5)
    else
      (sL1Once r3.1 10).bind fun r14 =>
      bif r14.2 then
        (sL41Bent r14.1).bind fun r15 =>
        (gd (r2.2.length + [r15.2].length)).bind fun _ =>
        some (r2.2 ++ [r15.2])
      else
        some (r2.2)
  else
    (sL1Once r2.1 10).bind fun r16 =>
    bif r16.2 then
      (sL41Bent r16.1).bind fun r17 =>
      (gd (r2.2.length + [r17.2].length)).bind fun _ =>
      some (r2.2 ++ [r17.2])
    else
      some (r2.2)
noncomputable def sDrawIsValidLogFS : Fsp := { fid := 41, ps := [⟨false, .list (.base .u8)⟩], rs := [⟨false, .list (.base .op)⟩], ex := false, sh := true, fn := fun x => sDrawIsValidLog x }
noncomputable def sDrawReplayLog (a : List Int) : Option ((List GOp)) :=
  (sL1New a).bind fun r1 =>
  (sL1Once r1 12).bind fun r2 =>
  bif r2.2 then
    (sDrawIsValidLog a).bind fun r3 =>
    some (r3)
  else
    (sL41Log r2.1 12).bind fun r4 =>
    some (r4.2)
noncomputable def sDrawReplayLogFS : Fsp := { fid := 18, ps := [⟨false, .list (.base .u8)⟩], rs := [⟨false, .list (.base .op)⟩], ex := false, sh := true, fn := fun x => sDrawReplayLog x }
noncomputable def FnMergedOps (a : List Int) : Option (Bool) :=
  (big a).bind fun r1 =>
  bif r1 then
    some (true)
  else
  (sDrawMergeOps a).bind fun r2 =>
  (iMergeOps r2.1 r2.2).bind fun r3 =>
  (sMergeOps r2.1 r2.2).bind fun r4 =>
  (sameOps r3 r4).bind fun r5 =>
  bif (!r5) then
    some (false)
  else
  (iMergeOps r2.2 r2.1).bind fun r6 =>
  (sameOps r3 r6).bind fun r7 =>
  bif (!r7) then
    some (false)
  else
  (iMergeOps r3 r2.1).bind fun r8 =>
  (sameOps r8 r3).bind fun r9 =>
  bif (!r9) then
    some (false)
  else
  (iIsValidLog r3).bind fun r10 =>
  bif (!r10) then
    some (false)
  else
  (sDrawReplayLog a).bind fun r11 =>
  (iMergeOps r2.1 r2.2).bind fun r12 =>
  (iMergeOps r12 []).bind fun r13 =>
  (iMergeOps r2.2 []).bind fun r14 =>
  (iMergeOps r2.1 r14).bind fun r15 =>
  (sameOps r13 r15).bind fun r16 =>
  bif (!r16) then
    some (false)
  else
  (sIsValidLog r11).bind fun r17 =>
  bif r17 then
    (iMergeOps [] r11).bind fun r18 =>
    (sameOps r18 r11).bind fun r19 =>
    bif (!r19) then
      some (false)
    else
      bif (decide ((r3.length : Int) ≥ (r2.1.length : Int))) then
        bif (decide ((r3.length : Int) ≥ (r2.2.length : Int))) then
          some ((decide ((r3.length : Int) ≤ (w64 ((r2.1.length : Int) + (r2.2.length : Int))))))
        else
          some (false)
      else
        some (false)
  else
    bif (decide ((r3.length : Int) ≥ (r2.1.length : Int))) then
      bif (decide ((r3.length : Int) ≥ (r2.2.length : Int))) then
        some ((decide ((r3.length : Int) ≤ (w64 ((r2.1.length : Int) + (r2.2.length : Int))))))
      else
        some (false)
    else
      some (false)
noncomputable def FnMergedOpsFS : Fsp := { fid := 4, ps := [⟨false, .list (.base .u8)⟩], rs := [⟨false, .base .bool⟩], ex := true, fn := fun x => FnMergedOps x }
end Go.Proofs.YtijhfajcbmpndaaGreat
