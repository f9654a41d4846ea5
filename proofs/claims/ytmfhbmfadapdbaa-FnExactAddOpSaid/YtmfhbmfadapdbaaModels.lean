/- What the functions compute, by gen.py. -/
import Derived.Test.YtmfhbmfadapdbaaTabs
namespace Go.Proofs.Ytmfhbmfadapdbaa
open Go.Abs Go.Proofs
set_option linter.unusedVariables false
abbrev siz {α : Type} [SizeOf α] (x : α) : Nat := SizeOf.sizeOf x
abbrev w64 (n : Int) : Int := IntKind.i64.wrap n
abbrev w8 (n : Int) : Int := IntKind.u8.wrap n
noncomputable def szCell (a : GCell) (b : Int) : Option (Int) :=
  bif (decide ((w64 (b - (a.name.length : Int))) < 0)) then
    some ((-1))
  else
    bif (decide ((w64 ((w64 (b - (a.name.length : Int))) - (a.code.length : Int))) < 0)) then
      some ((-1))
    else
      some (w64 ((w64 (b - (a.name.length : Int))) - (a.code.length : Int)))
noncomputable def szCellFS : Fsp := { fid := 138, ps := [⟨true, .base .cell⟩, ⟨false, .base .int⟩], rs := [⟨false, .base .int⟩], ex := true, fn := fun x => szCell x.1 x.2 }
noncomputable def szCellS (a : List GCell) (b : Int) : Option (Int) :=
  bif (decide ((w64 (b - (a.length : Int))) < 0)) then
    some ((-1))
  else
  loopD (fun (x1 : (List GCell) × Int × Int) =>
    bif (decide (x1.2.2 < (x1.1.length : Int))) then
      (idx x1.1 x1.2.2).bind fun e2 =>
      (szCell e2 x1.2.1).bind fun r3 =>
      bif (decide (r3 < 0)) then
        some (.inr ((-1)))
      else
        some (.inl (x1.1, r3, w64 (x1.2.2 + 1)))
    else
      some (.inr (x1.2.1))
  ) (a, w64 (b - (a.length : Int)), 0)
noncomputable def szCellSFS : Fsp := { fid := 66, ps := [⟨false, .list (.base .cell)⟩, ⟨false, .base .int⟩], rs := [⟨false, .base .int⟩], ex := true, fn := fun x => szCellS x.1 x.2 }
noncomputable def szNotebook (a : GNotebook) (b : Int) : Option (Int) :=
  (szCellS a.cells b).bind fun r1 =>
  bif (decide (r1 < 0)) then
    some ((-1))
  else
    some (r1)
noncomputable def szNotebookFS : Fsp := { fid := 12, ps := [⟨true, .base .notebook⟩, ⟨false, .base .int⟩], rs := [⟨false, .base .int⟩], ex := true, fn := fun x => szNotebook x.1 x.2 }
noncomputable def szEdit (a : GEdit) (b : Int) : Option (Int) :=
  (szCell a.cell b).bind fun r1 =>
  bif (decide (r1 < 0)) then
    some ((-1))
  else
    some (r1)
noncomputable def szEditFS : Fsp := { fid := 67, ps := [⟨true, .base .edit⟩, ⟨false, .base .int⟩], rs := [⟨false, .base .int⟩], ex := true, fn := fun x => szEdit x.1 x.2 }
noncomputable def szEditS (a : List GEdit) (b : Int) : Option (Int) :=
  bif (decide ((w64 (b - (a.length : Int))) < 0)) then
    some ((-1))
  else
  loopD (fun (x1 : (List GEdit) × Int × Int) =>
    bif (decide (x1.2.2 < (x1.1.length : Int))) then
      (idx x1.1 x1.2.2).bind fun e2 =>
      (szEdit e2 x1.2.1).bind fun r3 =>
      bif (decide (r3 < 0)) then
        some (.inr ((-1)))
      else
        some (.inl (x1.1, r3, w64 (x1.2.2 + 1)))
    else
      some (.inr (x1.2.1))
  ) (a, w64 (b - (a.length : Int)), 0)
noncomputable def szEditSFS : Fsp := { fid := 13, ps := [⟨false, .list (.base .edit)⟩, ⟨false, .base .int⟩], rs := [⟨false, .base .int⟩], ex := true, fn := fun x => szEditS x.1 x.2 }
noncomputable def sL17Copy (a : GNotebook) : Option (GNotebook) :=
  (gd (0 + a.cells.length)).bind fun _ =>
  some (GNotebook.mk ([] ++ a.cells))
noncomputable def sL17CopyFS : Fsp := { fid := 68, ps := [⟨true, .base .notebook⟩], rs := [⟨true, .base .notebook⟩], ex := true, fn := fun x => sL17Copy x }
noncomputable def sL1In (a : Int) (b : Int) (c : Int) : Option (Bool) :=
  bif (decide (a ≥ b)) then
    some ((decide (a ≤ c)))
  else
    some (false)
noncomputable def sL1InFS : Fsp := { fid := 81, ps := [⟨false, .base .int⟩, ⟨false, .base .int⟩, ⟨false, .base .int⟩], rs := [⟨false, .base .bool⟩], ex := true, fn := fun x => sL1In x.1 x.2.1 x.2.2 }
noncomputable def sCellIndex (a : GNotebook) (b : Int) : Option (Int) :=
  loopD (fun (x1 : Int × (List GCell) × Int) =>
    bif (decide (x1.2.2 < (x1.2.1.length : Int))) then
      (idx x1.2.1 x1.2.2).bind fun e2 =>
      bif (e2.id == x1.1) then
        some (.inr (x1.2.2))
      else
        some (.inl (x1.1, x1.2.1, w64 (x1.2.2 + 1)))
    else
      some (.inr ((-1)))
  ) (b, a.cells, 0)
noncomputable def sCellIndexFS : Fsp := { fid := 139, ps := [⟨true, .base .notebook⟩, ⟨false, .base .int⟩], rs := [⟨false, .base .int⟩], ex := true, fn := fun x => sCellIndex x.1 x.2 }
noncomputable def sIsPrintable (a : Str) : Option (Bool) :=
  loopD (fun (x1 : Str × Int) =>
    bif (decide (x1.2 < (x1.1.length : Int))) then
      (idx x1.1 x1.2).bind fun c2 =>
      bif (decide ((c2.toNat : Int) < 32)) then
        some (.inr (false))
      else
        (idx x1.1 x1.2).bind fun c3 =>
        bif (decide ((c3.toNat : Int) > 126)) then
          some (.inr (false))
        else
          some (.inl (x1.1, w64 (x1.2 + 1)))
    else
      some (.inr ((decide ((x1.1.length : Int) ≤ 120))))
  ) (a, 0)
noncomputable def sIsPrintableFS : Fsp := { fid := 182, ps := [⟨false, .base .str⟩], rs := [⟨false, .base .bool⟩], ex := true, fn := fun x => sIsPrintable x }
noncomputable def sL2Shape (a : Str) : Option (Bool) :=
  loopD (fun (x1 : Str × Int) =>
    bif (decide (x1.2 < (x1.1.length : Int))) then
      (idx x1.1 x1.2).bind fun c2 =>
      bif (decide ((c2.toNat : Int) ≥ 97)) then
        (idx x1.1 x1.2).bind fun c3 =>
        (idx x1.1 x1.2).bind fun c4 =>
        bif (decide ((c4.toNat : Int) ≥ 48)) then
          (idx x1.1 x1.2).bind fun c5 =>
          bif (!(decide ((c3.toNat : Int) ≤ 122))) then
            bif (x1.2 == 0) then
              some (.inr (false))
            else
              bif (!(decide ((c5.toNat : Int) ≤ 57))) then
                some (.inr (false))
              else
                some (.inl (x1.1, w64 (x1.2 + 1)))
          else
            some (.inl (x1.1, w64 (x1.2 + 1)))
        else
          bif (!(decide ((c3.toNat : Int) ≤ 122))) then
            bif (x1.2 == 0) then
              some (.inr (false))
            else
              some (.inr (false))
          else
            some (.inl (x1.1, w64 (x1.2 + 1)))
      else
      (idx x1.1 x1.2).bind fun c6 =>
      bif (decide ((c6.toNat : Int) ≥ 48)) then
        (idx x1.1 x1.2).bind fun c7 =>
        bif (x1.2 == 0) then
          some (.inr (false))
        else
          bif (!(decide ((c7.toNat : Int) ≤ 57))) then
            some (.inr (false))
          else
            some (.inl (x1.1, w64 (x1.2 + 1)))
      else
        bif (x1.2 == 0) then
          some (.inr (false))
        else
          some (.inr (false))
    else
      some (.inr ((decide ((x1.1.length : Int) > 0))))
  ) (a, 0)
noncomputable def sL2ShapeFS : Fsp := { fid := 210, ps := [⟨false, .base .str⟩], rs := [⟨false, .base .bool⟩], ex := true, fn := fun x => sL2Shape x }
noncomputable def sL1Has (a : List Str) (b : Str) : Option (Bool) :=
  loopD (fun (x1 : (List Str) × Str × Int) =>
    bif (decide (x1.2.2 < (x1.1.length : Int))) then
      (idx x1.1 x1.2.2).bind fun e2 =>
      bif (e2 == x1.2.1) then
        some (.inr (true))
      else
        some (.inl (x1.1, x1.2.1, w64 (x1.2.2 + 1)))
    else
      some (.inr (false))
  ) (a, b, 0)
noncomputable def sL1HasFS : Fsp := { fid := 230, ps := [⟨false, .list (.base .str)⟩, ⟨false, .base .str⟩], rs := [⟨false, .base .bool⟩], ex := true, fn := fun x => sL1Has x.1 x.2 }
noncomputable def sL2Reserved : Option ((List Str)) :=
  some ([[108, 101, 116], [105, 110], [105, 102], [116, 104, 101, 110], [101, 108, 115, 101], [102, 111, 114], [100, 111], [108, 101, 110], [115, 117, 109], [116, 97, 107, 101], [115, 107, 105, 112], [114, 97, 110, 103, 101], [110, 116, 104], [119, 104, 101, 114, 101], [107, 101, 101, 112], [97, 100, 100], [103, 114, 111, 117, 112], [106, 111, 105, 110], [99, 111, 108, 117, 109, 110], [114, 111, 119, 115], [99, 108, 111, 99, 107], [99, 104, 97, 110, 99, 101], [102, 105, 108, 101], [116, 97, 98, 108, 101]])
noncomputable def sL2ReservedFS : Fsp := { fid := 231, ps := [], rs := [⟨false, .list (.base .str)⟩], ex := true, fn := fun x => sL2Reserved }
noncomputable def sIsReserved (a : Str) : Option (Bool) :=
  (sL2Reserved).bind fun r1 =>
  (sL1Has r1 a).bind fun r2 =>
  some (r2)
noncomputable def sIsReservedFS : Fsp := { fid := 211, ps := [⟨false, .base .str⟩], rs := [⟨false, .base .bool⟩], ex := true, fn := fun x => sIsReserved x }
noncomputable def sIsValidName (a : Str) : Option (Bool) :=
  (sL2Shape a).bind fun r1 =>
  bif r1 then
    bif (decide ((a.length : Int) ≤ 8)) then
      (sIsReserved a).bind fun r2 =>
      some ((!r2))
    else
      some (false)
  else
    some (false)
noncomputable def sIsValidNameFS : Fsp := { fid := 183, ps := [⟨false, .base .str⟩], rs := [⟨false, .base .bool⟩], ex := true, fn := fun x => sIsValidName x }
noncomputable def sIsValidCell (a : GCell) : Option (Bool) :=
  (sL1In a.id 1 999).bind fun r1 =>
  bif (!r1) then
    some (false)
  else
  (sL1In a.version 1 999).bind fun r2 =>
  bif (!r2) then
    some (false)
  else
  (sIsPrintable a.code).bind fun r3 =>
  bif (!r3) then
    some (false)
  else
  bif (a.kind == 1) then
    bif (a.name == []) then
      some ((a.n == 0))
    else
      some (false)
  else
  bif (a.kind == 2) then
    (sIsValidName a.name).bind fun r4 =>
    bif r4 then
      some ((a.n == 0))
    else
      some (false)
  else
  bif (a.kind == 4) then
    (sIsValidName a.name).bind fun r5 =>
    bif r5 then
      some ((a.n == 0))
    else
      some (false)
  else
  bif (a.kind == 3) then
    (sIsValidName a.name).bind fun r6 =>
    bif r6 then
      bif (a.code == []) then
        (sL1In a.n 0 100).bind fun r7 =>
        some (r7)
      else
        some (false)
    else
      some (false)
  else
    some (false)
noncomputable def sIsValidCellFS : Fsp := { fid := 141, ps := [⟨true, .base .cell⟩], rs := [⟨false, .base .bool⟩], ex := true, fn := fun x => sIsValidCell x }
noncomputable def sIsValidNotebook (a : GNotebook) : Option (Bool) :=
  loopD (fun (x1 : (List GCell) × Int) =>
    bif (decide (x1.2 < (x1.1.length : Int))) then
      (idx x1.1 x1.2).bind fun e2 =>
      (sIsValidCell e2).bind fun r3 =>
      bif (!r3) then
        some (.inr (false))
      else
        (idx x1.1 x1.2).bind fun e4 =>
        (sCellIndex (GNotebook.mk x1.1) e4.id).bind fun r5 =>
        bif (r5 != x1.2) then
          some (.inr (false))
        else
          some (.inl (x1.1, w64 (x1.2 + 1)))
    else
      some (.inr ((decide ((x1.1.length : Int) ≤ 8))))
  ) (a.cells, 0)
noncomputable def sIsValidNotebookFS : Fsp := { fid := 140, ps := [⟨true, .base .notebook⟩], rs := [⟨false, .base .bool⟩], ex := true, fn := fun x => sIsValidNotebook x }
noncomputable def sL1Max (a : Int) (b : Int) : Option (Int) :=
  bif (decide (a > b)) then
    some (a)
  else
    some (b)
noncomputable def sL1MaxFS : Fsp := { fid := 171, ps := [⟨false, .base .int⟩, ⟨false, .base .int⟩], rs := [⟨false, .base .int⟩], ex := true, fn := fun x => sL1Max x.1 x.2 }
noncomputable def sL1Min (a : Int) (b : Int) : Option (Int) :=
  bif (decide (a < b)) then
    some (a)
  else
    some (b)
noncomputable def sL1MinFS : Fsp := { fid := 184, ps := [⟨false, .base .int⟩, ⟨false, .base .int⟩], rs := [⟨false, .base .int⟩], ex := true, fn := fun x => sL1Min x.1 x.2 }
noncomputable def sL20Put (a : List GCell) (b : Int) (c : GCell) : Option ((List GCell)) :=
  (sL1Min b (a.length : Int)).bind fun r1 =>
  (sL1Max 0 r1).bind fun r2 =>
  (eff.cutL a none (some r2)).bind fun r3 =>
  (gd (0 + r3.length)).bind fun _ =>
  (gd (([] ++ r3).length + [c].length)).bind fun _ =>
  (eff.cutL a (some r2) none).bind fun r4 =>
  (gd ((([] ++ r3) ++ [c]).length + r4.length)).bind fun _ =>
  some ((([] ++ r3) ++ [c]) ++ r4)
noncomputable def sL20PutFS : Fsp := { fid := 142, ps := [⟨false, .list (.base .cell)⟩, ⟨false, .base .int⟩, ⟨true, .base .cell⟩], rs := [⟨false, .list (.base .cell)⟩], ex := true, fn := fun x => sL20Put x.1 x.2.1 x.2.2 }
noncomputable def sL20Drop (a : List GCell) (b : Int) : Option ((List GCell)) :=
  (eff.cutL a none (some b)).bind fun r1 =>
  (gd (0 + r1.length)).bind fun _ =>
  (eff.cutL a (some (w64 (b + 1))) none).bind fun r2 =>
  (gd (([] ++ r1).length + r2.length)).bind fun _ =>
  some (([] ++ r1) ++ r2)
noncomputable def sL20DropFS : Fsp := { fid := 143, ps := [⟨false, .list (.base .cell)⟩, ⟨false, .base .int⟩], rs := [⟨false, .list (.base .cell)⟩], ex := true, fn := fun x => sL20Drop x.1 x.2 }
noncomputable def sL20Cell (a : GCell) (b : GEdit) : Option (GCell × Int) :=
  bif (b.kind == 4) then
    bif (a.kind == 3) then
      some (a, 5)
    else
    bif (b.kind != 5) then
      bif (a.version == 999) then
        some (GCell.mk a.id a.version a.kind b.cell.name b.cell.code a.n, 6)
      else
        (sIsValidCell (GCell.mk a.id (w64 (a.version + 1)) a.kind b.cell.name b.cell.code a.n)).bind fun r1 =>
        bif (!r1) then
          some (GCell.mk a.id (w64 (a.version + 1)) a.kind b.cell.name b.cell.code a.n, 1)
        else
          some (GCell.mk a.id (w64 (a.version + 1)) a.kind b.cell.name b.cell.code a.n, 0)
    else
      (sIsValidCell (GCell.mk a.id a.version a.kind b.cell.name b.cell.code a.n)).bind fun r2 =>
      bif (!r2) then
        some (GCell.mk a.id a.version a.kind b.cell.name b.cell.code a.n, 1)
      else
        some (GCell.mk a.id a.version a.kind b.cell.name b.cell.code a.n, 0)
  else
  bif (b.kind == 5) then
    bif (a.kind != 3) then
      some (a, 5)
    else
    bif (b.kind != 5) then
      bif (a.version == 999) then
        some (GCell.mk a.id a.version a.kind a.name a.code b.cell.n, 6)
      else
        (sIsValidCell (GCell.mk a.id (w64 (a.version + 1)) a.kind a.name a.code b.cell.n)).bind fun r3 =>
        bif (!r3) then
          some (GCell.mk a.id (w64 (a.version + 1)) a.kind a.name a.code b.cell.n, 1)
        else
          some (GCell.mk a.id (w64 (a.version + 1)) a.kind a.name a.code b.cell.n, 0)
    else
      (sIsValidCell (GCell.mk a.id a.version a.kind a.name a.code b.cell.n)).bind fun r4 =>
      bif (!r4) then
        some (GCell.mk a.id a.version a.kind a.name a.code b.cell.n, 1)
      else
        some (GCell.mk a.id a.version a.kind a.name a.code b.cell.n, 0)
  else
  bif (a.kind != 2) then
    some (a, 5)
  else
  bif (b.kind != 5) then
    bif (a.version == 999) then
      some (a, 6)
    else
      (sIsValidCell (GCell.mk a.id (w64 (a.version + 1)) a.kind a.name a.code a.n)).bind fun r5 =>
      bif (!r5) then
        some (GCell.mk a.id (w64 (a.version + 1)) a.kind a.name a.code a.n, 1)
      else
        some (GCell.mk a.id (w64 (a.version + 1)) a.kind a.name a.code a.n, 0)
  else
    (sIsValidCell a).bind fun r6 =>
    bif (!r6) then
      some (a, 1)
    else
      some (a, 0)
noncomputable def sL20CellFS : Fsp := { fid := 144, ps := [⟨true, .base .cell⟩, ⟨true, .base .edit⟩], rs := [⟨true, .base .cell⟩, ⟨false, .base .int⟩], ex := true, fn := fun x => sL20Cell x.1 x.2 }
noncomputable def sApplyEdit (a : GNotebook) (b : GEdit) : Option (GNotebook × Int) :=
  (sL17Copy a).bind fun r1 =>
  (sIsValidNotebook a).bind fun r2 =>
  bif (!r2) then
    some (r1, 1)
  else
  (sL1In b.kind 1 6).bind fun r3 =>
  bif (!r3) then
    some (r1, 1)
  else
  (sCellIndex a b.cell.id).bind fun r4 =>
  bif (b.kind == 1) then
    (sIsValidCell b.cell).bind fun r5 =>
    bif (!r5) then
      some (r1, 1)
    else
      bif (decide (r4 ≥ 0)) then
        some (r1, 3)
      else
        bif ((a.cells.length : Int) == 8) then
          some (r1, 4)
        else
          (sL20Put a.cells b.pos b.cell).bind fun r6 =>
          some (GNotebook.mk r6, 0)
  else
  bif (decide (r4 < 0)) then
    some (r1, 2)
  else
  bif (b.kind == 2) then
    (sL20Drop a.cells r4).bind fun r7 =>
    some (GNotebook.mk r7, 0)
  else
  bif (b.kind == 3) then
    (sL20Drop a.cells r4).bind fun r8 =>
    (idx a.cells r4).bind fun e9 =>
    (sL20Put r8 b.pos e9).bind fun r10 =>
    some (GNotebook.mk r10, 0)
  else
    (idx a.cells r4).bind fun e11 =>
    (sL20Cell e11 b).bind fun r12 =>
    bif (r12.2 == 0) then
      (idx r1.cells r4).bind fun _ =>
      (r1.cells[r4.toNat]?).bind fun e14 =>
      some (GNotebook.mk (r1.cells.set r4.toNat r12.1), r12.2)
    else
      some (r1, r12.2)
noncomputable def sApplyEditFS : Fsp := { fid := 70, ps := [⟨true, .base .notebook⟩, ⟨true, .base .edit⟩], rs := [⟨true, .base .notebook⟩, ⟨false, .base .int⟩], ex := true, fn := fun x => sApplyEdit x.1 x.2 }
noncomputable def sInverseEdit (a : GNotebook) (b : GEdit) : Option (GEdit × Bool) :=
  (sApplyEdit a b).bind fun r1 =>
  bif (r1.2 != 0) then
    some (GEdit.mk 0 0 (GCell.mk 0 0 0 [] [] 0), false)
  else
  bif (b.kind == 1) then
    some (GEdit.mk 2 0 (GCell.mk b.cell.id 0 0 [] [] 0), true)
  else
  (sCellIndex a b.cell.id).bind fun r2 =>
  (idx a.cells r2).bind fun e3 =>
  bif (b.kind == 2) then
    some (GEdit.mk 1 r2 e3, true)
  else
    bif (b.kind == 3) then
      some (GEdit.mk 3 r2 (GCell.mk b.cell.id 0 0 [] [] 0), true)
    else
      bif (b.kind == 4) then
        some (GEdit.mk 4 0 (GCell.mk b.cell.id 0 0 e3.name e3.code 0), true)
      else
        bif (b.kind == 5) then
          some (GEdit.mk 5 0 (GCell.mk b.cell.id 0 0 [] [] e3.n), true)
        else
          some (GEdit.mk 6 0 (GCell.mk b.cell.id 0 0 [] [] 0), true)
noncomputable def sInverseEditFS : Fsp := { fid := 69, ps := [⟨true, .base .notebook⟩, ⟨true, .base .edit⟩], rs := [⟨true, .base .edit⟩, ⟨false, .base .bool⟩], ex := true, fn := fun x => sInverseEdit x.1 x.2 }
noncomputable def sInverseBatch (a : GNotebook) (b : List GEdit) : Option ((List GEdit) × Bool) :=
  (sL17Copy a).bind fun r1 =>
  loopD (fun (x2 : (List GEdit) × (List GEdit) × (List GCell) × Int) =>
    bif (decide (x2.2.2.2 < (x2.1.length : Int))) then
      (idx x2.1 x2.2.2.2).bind fun e3 =>
      (sInverseEdit (GNotebook.mk x2.2.2.1) e3).bind fun r4 =>
      bif (!r4.2) then
        some (.inr ([], false))
      else
        (gd ([r4.1].length + x2.2.1.length)).bind fun _ =>
        (idx x2.1 x2.2.2.2).bind fun e5 =>
        (sApplyEdit (GNotebook.mk x2.2.2.1) e5).bind fun r6 =>
        some (.inl (x2.1, [r4.1] ++ x2.2.1, r6.1.cells, w64 (x2.2.2.2 + 1)))
    else
      some (.inr (x2.2.1, true))
  ) (b, [], r1.cells, 0)
noncomputable def sInverseBatchFS : Fsp := { fid := 14, ps := [⟨true, .base .notebook⟩, ⟨false, .list (.base .edit)⟩], rs := [⟨false, .list (.base .edit)⟩, ⟨false, .base .bool⟩], ex := true, fn := fun x => sInverseBatch x.1 x.2 }
noncomputable def toCell (a : GCell) : Option (GCell) :=
  some (a)
noncomputable def toCellFS : Fsp := { fid := 145, ps := [⟨true, .base .cell⟩], rs := [⟨true, .base .cell⟩], ex := true, fn := fun x => toCell x }
noncomputable def toCellS (a : List GCell) : Option ((List GCell)) :=
  (mk (a.length : Int)).bind fun m1 =>
  loopD (fun (x2 : (List GCell) × (List GCell) × Int) =>
    bif (decide (x2.2.2 < (x2.1.length : Int))) then
      (idx x2.1 x2.2.2).bind fun e3 =>
      (toCell e3).bind fun r4 =>
      (idx x2.2.1 x2.2.2).bind fun _ =>
      (x2.2.1[x2.2.2.toNat]?).bind fun e6 =>
      some (.inl (x2.1, x2.2.1.set x2.2.2.toNat r4, w64 (x2.2.2 + 1)))
    else
      some (.inr (x2.2.1))
  ) (a, List.replicate m1 (GCell.mk 0 0 0 [] [] 0), 0)
noncomputable def toCellSFS : Fsp := { fid := 71, ps := [⟨false, .list (.base .cell)⟩], rs := [⟨false, .list (.base .cell)⟩], ex := true, fn := fun x => toCellS x }
noncomputable def toNotebook (a : GNotebook) : Option (GNotebook) :=
  (toCellS a.cells).bind fun r1 =>
  some (GNotebook.mk r1)
noncomputable def toNotebookFS : Fsp := { fid := 15, ps := [⟨true, .base .notebook⟩], rs := [⟨true, .base .notebook⟩], ex := true, fn := fun x => toNotebook x }
noncomputable def toEdit (a : GEdit) : Option (GEdit) :=
  (toCell a.cell).bind fun r1 =>
  some (GEdit.mk a.kind a.pos r1)
noncomputable def toEditFS : Fsp := { fid := 72, ps := [⟨true, .base .edit⟩], rs := [⟨true, .base .edit⟩], ex := true, fn := fun x => toEdit x }
noncomputable def toEditS (a : List GEdit) : Option ((List GEdit)) :=
  (mk (a.length : Int)).bind fun m1 =>
  loopD (fun (x2 : (List GEdit) × (List GEdit) × Int) =>
    bif (decide (x2.2.2 < (x2.1.length : Int))) then
      (idx x2.1 x2.2.2).bind fun e3 =>
      (toEdit e3).bind fun r4 =>
      (idx x2.2.1 x2.2.2).bind fun _ =>
      (x2.2.1[x2.2.2.toNat]?).bind fun e6 =>
      some (.inl (x2.1, x2.2.1.set x2.2.2.toNat r4, w64 (x2.2.2 + 1)))
    else
      some (.inr (x2.2.1))
  ) (a, List.replicate m1 (GEdit.mk 0 0 (GCell.mk 0 0 0 [] [] 0)), 0)
noncomputable def toEditSFS : Fsp := { fid := 16, ps := [⟨false, .list (.base .edit)⟩], rs := [⟨false, .list (.base .edit)⟩], ex := true, fn := fun x => toEditS x }
noncomputable def iWithin (a : Int) (b : Int) (c : Int) : Option (Bool) :=
  bif (decide (b ≤ a)) then
    some ((decide (a ≤ c)))
  else
    some (false)
noncomputable def iWithinFS : Fsp := { fid := 86, ps := [⟨false, .base .int⟩, ⟨false, .base .int⟩, ⟨false, .base .int⟩], rs := [⟨false, .base .bool⟩], ex := true, fn := fun x => iWithin x.1 x.2.1 x.2.2 }
noncomputable def iCellIndex (a : GNotebook) (b : Int) : Option (Int) :=
  loopD (fun (x1 : Int × (List GCell) × Int × Int) =>
    bif (decide (x1.2.2.2 < x1.2.2.1)) then
      (idx x1.2.1 x1.2.2.2).bind fun e2 =>
      bif (e2.id == x1.1) then
        some (.inr (x1.2.2.2))
      else
        some (.inl (x1.1, x1.2.1, x1.2.2.1, w64 (x1.2.2.2 + 1)))
    else
      some (.inr ((-1)))
  ) (b, a.cells, (a.cells.length : Int), 0)
noncomputable def iCellIndexFS : Fsp := { fid := 146, ps := [⟨true, .base .notebook⟩, ⟨false, .base .int⟩], rs := [⟨false, .base .int⟩], ex := true, fn := fun x => iCellIndex x.1 x.2 }
noncomputable def iIsPrintable (a : Str) : Option (Bool) :=
  loopD (fun (x1 : Str × Int) =>
    bif (decide (x1.2 < (x1.1.length : Int))) then
      (idx x1.1 x1.2).bind fun c2 =>
      bif (decide ((c2.toNat : Int) < 32)) then
        some (.inr (false))
      else
        (idx x1.1 x1.2).bind fun c3 =>
        bif (decide ((c3.toNat : Int) > 126)) then
          some (.inr (false))
        else
          some (.inl (x1.1, w64 (x1.2 + 1)))
    else
      some (.inr ((decide ((x1.1.length : Int) ≤ 120))))
  ) (a, 0)
noncomputable def iIsPrintableFS : Fsp := { fid := 212, ps := [⟨false, .base .str⟩], rs := [⟨false, .base .bool⟩], ex := true, fn := fun x => iIsPrintable x }
noncomputable def iIsWord (a : Str) : Option (Bool) :=
  loopD (fun (x1 : Str × Int) =>
    bif (decide (x1.2 < (x1.1.length : Int))) then
      (idx x1.1 x1.2).bind fun c2 =>
      bif (decide ((c2.toNat : Int) ≥ 97)) then
        (idx x1.1 x1.2).bind fun c3 =>
        bif (!(decide ((c3.toNat : Int) ≤ 122))) then
          bif (x1.2 == 0) then
            some (.inr (false))
          else
            (idx x1.1 x1.2).bind fun c4 =>
            bif (decide ((c4.toNat : Int) < 48)) then
              some (.inr (false))
            else
              (idx x1.1 x1.2).bind fun c5 =>
              bif (decide ((c5.toNat : Int) > 57)) then
                some (.inr (false))
              else
                some (.inl (x1.1, w64 (x1.2 + 1)))
        else
          some (.inl (x1.1, w64 (x1.2 + 1)))
      else
      bif (x1.2 == 0) then
        some (.inr (false))
      else
        (idx x1.1 x1.2).bind fun c6 =>
        bif (decide ((c6.toNat : Int) < 48)) then
          some (.inr (false))
        else
          (idx x1.1 x1.2).bind fun c7 =>
          bif (decide ((c7.toNat : Int) > 57)) then
            some (.inr (false))
          else
            some (.inl (x1.1, w64 (x1.2 + 1)))
    else
      (
        (iWithin (x1.1.length : Int) 1 8).bind fun r8 =>
        some (r8)
      ).bind fun r => some (.inr r)
  ) (a, 0)
noncomputable def iIsWordFS : Fsp := { fid := 232, ps := [⟨false, .base .str⟩], rs := [⟨false, .base .bool⟩], ex := true, fn := fun x => iIsWord x }
noncomputable def iArgumentCount (a : Str) : Option (Int) :=
  bif (a == [99, 108, 111, 99, 107]) then
    some (0)
  else
  bif (a == [108, 101, 110]) then
    some (1)
  else
  bif (a == [115, 117, 109]) then
    some (1)
  else
  bif (a == [114, 111, 119, 115]) then
    some (1)
  else
  bif (a == [99, 104, 97, 110, 99, 101]) then
    some (1)
  else
  bif (a == [102, 105, 108, 101]) then
    some (1)
  else
  bif (a == [116, 97, 107, 101]) then
    some (2)
  else
  bif (a == [115, 107, 105, 112]) then
    some (2)
  else
  bif (a == [114, 97, 110, 103, 101]) then
    some (2)
  else
  bif (a == [110, 116, 104]) then
    some (2)
  else
  bif (a == [107, 101, 101, 112]) then
    some (2)
  else
  bif (a == [99, 111, 108, 117, 109, 110]) then
    some (2)
  else
  bif (a == [116, 97, 98, 108, 101]) then
    some (2)
  else
  bif (a == [119, 104, 101, 114, 101]) then
    some (3)
  else
    bif (a == [103, 114, 111, 117, 112]) then
      some (3)
    else
      bif (a == [106, 111, 105, 110]) then
        some (3)
      else
        bif (a == [97, 100, 100]) then
          some (4)
        else
          some ((-1))
noncomputable def iArgumentCountFS : Fsp := { fid := 239, ps := [⟨false, .base .str⟩], rs := [⟨false, .base .int⟩], ex := true, fn := fun x => iArgumentCount x }
noncomputable def iIsReserved (a : Str) : Option (Bool) :=
  bif (a == [108, 101, 116]) then
    some (true)
  else
  bif (a == [105, 110]) then
    some (true)
  else
  bif (a == [105, 102]) then
    some (true)
  else
  bif (a == [116, 104, 101, 110]) then
    some (true)
  else
  bif (a == [101, 108, 115, 101]) then
    some (true)
  else
    bif (a == [102, 111, 114]) then
      some (true)
    else
      bif (a == [100, 111]) then
        some (true)
      else
        (iArgumentCount a).bind fun r1 =>
        some ((decide (r1 ≥ 0)))
noncomputable def iIsReservedFS : Fsp := { fid := 233, ps := [⟨false, .base .str⟩], rs := [⟨false, .base .bool⟩], ex := true, fn := fun x => iIsReserved x }
noncomputable def iIsValidName (a : Str) : Option (Bool) :=
  (iIsWord a).bind fun r1 =>
  bif r1 then
    (iIsReserved a).bind fun r2 =>
    some ((!r2))
  else
    some (false)
noncomputable def iIsValidNameFS : Fsp := { fid := 213, ps := [⟨false, .base .str⟩], rs := [⟨false, .base .bool⟩], ex := true, fn := fun x => iIsValidName x }
noncomputable def iIsValidCell (a : GCell) : Option (Bool) :=
  (iWithin a.id 1 999).bind fun r1 =>
  bif (!r1) then
    some (false)
  else
  (iWithin a.version 1 999).bind fun r2 =>
  bif (!r2) then
    some (false)
  else
  (iIsPrintable a.code).bind fun r3 =>
  bif (!r3) then
    some (false)
  else
  bif (a.kind == 1) then
    bif (a.name == []) then
      some ((a.n == 0))
    else
      some (false)
  else
  bif (a.kind == 2) then
    (iIsValidName a.name).bind fun r4 =>
    bif r4 then
      some ((a.n == 0))
    else
      some (false)
  else
  bif (a.kind == 4) then
    (iIsValidName a.name).bind fun r5 =>
    bif r5 then
      some ((a.n == 0))
    else
      some (false)
  else
  bif (a.kind == 3) then
    (iIsValidName a.name).bind fun r6 =>
    bif r6 then
      bif (a.code == []) then
        (iWithin a.n 0 100).bind fun r7 =>
        some (r7)
      else
        some (false)
    else
      some (false)
  else
    some (false)
noncomputable def iIsValidCellFS : Fsp := { fid := 185, ps := [⟨true, .base .cell⟩], rs := [⟨false, .base .bool⟩], ex := true, fn := fun x => iIsValidCell x }
noncomputable def iIsValidNotebook (a : GNotebook) : Option (Bool) :=
  loopD (fun (x1 : (List GCell) × (List GCell) × Int × Int) =>
    bif (decide (x1.2.2.2 < x1.2.2.1)) then
      (idx x1.2.1 x1.2.2.2).bind fun e2 =>
      (iIsValidCell e2).bind fun r3 =>
      bif (!r3) then
        some (.inr (false))
      else
        (iCellIndex (GNotebook.mk x1.1) e2.id).bind fun r4 =>
        bif (r4 != x1.2.2.2) then
          some (.inr (false))
        else
          some (.inl (x1.1, x1.2.1, x1.2.2.1, w64 (x1.2.2.2 + 1)))
    else
      some (.inr ((decide ((x1.1.length : Int) ≤ 8))))
  ) (a.cells, a.cells, (a.cells.length : Int), 0)
noncomputable def iIsValidNotebookFS : Fsp := { fid := 147, ps := [⟨true, .base .notebook⟩], rs := [⟨false, .base .bool⟩], ex := true, fn := fun x => iIsValidNotebook x }
noncomputable def iCopyNotebook (a : GNotebook) : Option (GNotebook) :=
  (gd (0 + a.cells.length)).bind fun _ =>
  some (GNotebook.mk ([] ++ a.cells))
noncomputable def iCopyNotebookFS : Fsp := { fid := 148, ps := [⟨true, .base .notebook⟩], rs := [⟨true, .base .notebook⟩], ex := true, fn := fun x => iCopyNotebook x }
noncomputable def iInserted (a : List GCell) (b : Int) (c : GCell) : Option ((List GCell)) :=
  (eff.cutL a none (some (if (if (a.length : Int) < b then (a.length : Int) else b) > 0 then (if (a.length : Int) < b then (a.length : Int) else b) else 0))).bind fun r1 =>
  (gd (0 + r1.length)).bind fun _ =>
  (gd (([] ++ r1).length + [c].length)).bind fun _ =>
  (eff.cutL a (some (if (if (a.length : Int) < b then (a.length : Int) else b) > 0 then (if (a.length : Int) < b then (a.length : Int) else b) else 0)) none).bind fun r2 =>
  (gd ((([] ++ r1) ++ [c]).length + r2.length)).bind fun _ =>
  some ((([] ++ r1) ++ [c]) ++ r2)
noncomputable def iInsertedFS : Fsp := { fid := 186, ps := [⟨false, .list (.base .cell)⟩, ⟨false, .base .int⟩, ⟨true, .base .cell⟩], rs := [⟨false, .list (.base .cell)⟩], ex := true, fn := fun x => iInserted x.1 x.2.1 x.2.2 }
noncomputable def iRemoved (a : List GCell) (b : Int) : Option ((List GCell)) :=
  (eff.cutL a none (some b)).bind fun r1 =>
  (gd (0 + r1.length)).bind fun _ =>
  (eff.cutL a (some (w64 (b + 1))) none).bind fun r2 =>
  (gd (([] ++ r1).length + r2.length)).bind fun _ =>
  some (([] ++ r1) ++ r2)
noncomputable def iRemovedFS : Fsp := { fid := 187, ps := [⟨false, .list (.base .cell)⟩, ⟨false, .base .int⟩], rs := [⟨false, .list (.base .cell)⟩], ex := true, fn := fun x => iRemoved x.1 x.2 }
noncomputable def iChange (a : GNotebook) (b : GEdit) : Option (GNotebook × Int) :=
  (iCellIndex a b.cell.id).bind fun r1 =>
  bif (b.kind == 1) then
    (iIsValidCell b.cell).bind fun r2 =>
    bif (!r2) then
      some (a, 1)
    else
      bif (decide (r1 ≥ 0)) then
        some (a, 3)
      else
        bif (decide ((a.cells.length : Int) ≥ 8)) then
          some (a, 4)
        else
          (iInserted a.cells b.pos b.cell).bind fun r3 =>
          some (GNotebook.mk r3, 0)
  else
  bif (decide (r1 < 0)) then
    some (a, 2)
  else
  (idx a.cells r1).bind fun e4 =>
  bif (b.kind == 2) then
    (iRemoved a.cells r1).bind fun r5 =>
    some (GNotebook.mk r5, 0)
  else
  bif (b.kind == 3) then
    (iRemoved a.cells r1).bind fun r6 =>
    (iInserted r6 b.pos e4).bind fun r7 =>
    some (GNotebook.mk r7, 0)
  else
  bif (b.kind == 5) then
    bif (e4.kind != 3) then
      some (a, 5)
    else
      (iIsValidCell (GCell.mk e4.id e4.version e4.kind e4.name e4.code b.cell.n)).bind fun r8 =>
      bif (!r8) then
        some (a, 1)
      else
        (iCopyNotebook a).bind fun r9 =>
        (idx r9.cells r1).bind fun _ =>
        (r9.cells[r1.toNat]?).bind fun e11 =>
        some (GNotebook.mk (r9.cells.set r1.toNat (GCell.mk e4.id e4.version e4.kind e4.name e4.code b.cell.n)), 0)
  else
  bif (b.kind == 4) then
    bif (e4.kind == 3) then
      some (a, 5)
    else
    bif (b.kind == 6) then
      bif (e4.kind != 2) then
        some (a, 5)
      else
      bif (decide (e4.version ≥ 999)) then
        some (a, 6)
      else
      bif (b.kind == 4) then
        (iIsValidCell (GCell.mk e4.id (w64 (e4.version + 1)) e4.kind b.cell.name b.cell.code e4.n)).bind fun r12 =>
        bif (!r12) then
          some (a, 1)
        else
          (iCopyNotebook a).bind fun r13 =>
          (idx r13.cells r1).bind fun _ =>
          (r13.cells[r1.toNat]?).bind fun e15 =>
          some (GNotebook.mk (r13.cells.set r1.toNat (GCell.mk e4.id (w64 (e4.version + 1)) e4.kind b.cell.name b.cell.code e4.n)), 0)
      else
        (iIsValidCell (GCell.mk e4.id (w64 (e4.version + 1)) e4.kind e4.name e4.code e4.n)).bind fun r16 =>
        bif (!r16) then
          some (a, 1)
        else
          (iCopyNotebook a).bind fun r17 =>
          (idx r17.cells r1).bind fun _ =>
          (r17.cells[r1.toNat]?).bind fun e19 =>
          some (GNotebook.mk (r17.cells.set r1.toNat (GCell.mk e4.id (w64 (e4.version + 1)) e4.kind e4.name e4.code e4.n)), 0)
    else
    bif (decide (e4.version ≥ 999)) then
      some (a, 6)
    else
    bif (b.kind == 4) then
      (iIsValidCell (GCell.mk e4.id (w64 (e4.version + 1)) e4.kind b.cell.name b.cell.code e4.n)).bind fun r20 =>
      bif (!r20) then
        some (a, 1)
      else
        (iCopyNotebook a).bind fun r21 =>
        (idx r21.cells r1).bind fun _ =>
        (r21.cells[r1.toNat]?).bind fun e23 =>
        some (GNotebook.mk (r21.cells.set r1.toNat (GCell.mk e4.id (w64 (e4.version + 1)) e4.kind b.cell.name b.cell.code e4.n)), 0)
    else
      (iIsValidCell (GCell.mk e4.id (w64 (e4.version + 1)) e4.kind e4.name e4.code e4.n)).bind fun r24 =>
      bif (!r24) then
        some (a, 1)
      else
        (iCopyNotebook a).bind fun r25 =>
        (idx r25.cells r1).bind fun _ =>
        (r25.cells[r1.toNat]?).bind fun e27 =>
        some (GNotebook.mk (r25.cells.set r1.toNat (GCell.mk e4.id (w64 (e4.version + 1)) e4.kind e4.name e4.code e4.n)), 0)
  else
  bif (b.kind == 6) then
    bif (e4.kind != 2) then
      some (a, 5)
    else
    bif (decide (e4.version ≥ 999)) then
      some (a, 6)
    else
    bif (b.kind == 4) then
      (iIsValidCell (GCell.mk e4.id (w64 (e4.version + 1)) e4.kind b.cell.name b.cell.code e4.n)).bind fun r28 =>
      bif (!r28) then
        some (a, 1)
      else
        (iCopyNotebook a).bind fun r29 =>
        (idx r29.cells r1).bind fun _ =>
        (r29.cells[r1.toNat]?).bind fun e31 =>
        some (GNotebook.mk (r29.cells.set r1.toNat (GCell.mk e4.id (w64 (e4.version + 1)) e4.kind b.cell.name b.cell.code e4.n)), 0)
    else
      (iIsValidCell (GCell.mk e4.id (w64 (e4.version + 1)) e4.kind e4.name e4.code e4.n)).bind fun r32 =>
      bif (!r32) then
        some (a, 1)
      else
        (iCopyNotebook a).bind fun r33 =>
        (idx r33.cells r1).bind fun _ =>
        (r33.cells[r1.toNat]?).bind fun e35 =>
        some (GNotebook.mk (r33.cells.set r1.toNat (GCell.mk e4.id (w64 (e4.version + 1)) e4.kind e4.name e4.code e4.n)), 0)
  else
  bif (decide (e4.version ≥ 999)) then
    some (a, 6)
  else
  bif (b.kind == 4) then
    (iIsValidCell (GCell.mk e4.id (w64 (e4.version + 1)) e4.kind b.cell.name b.cell.code e4.n)).bind fun r36 =>
    bif (!r36) then
      some (a, 1)
    else
      (iCopyNotebook a).bind fun r37 =>
      (idx r37.cells r1).bind fun _ =>
      (r37.cells[r1.toNat]?).bind fun e39 =>
      some (GNotebook.mk (r37.cells.set r1.toNat (GCell.mk e4.id (w64 (e4.version + 1)) e4.kind b.cell.name b.cell.code e4.n)), 0)
  else
    (iIsValidCell (GCell.mk e4.id (w64 (e4.version + 1)) e4.kind e4.name e4.code e4.n)).bind fun r40 =>
    bif (!r40) then
      some (a, 1)
    else
      (iCopyNotebook a).bind fun r41 =>
      (idx r41.cells r1).bind fun _ =>
      (r41.cells[r1.toNat]?).bind fun e43 =>
      some (GNotebook.mk (r41.cells.set r1.toNat (GCell.mk e4.id (w64 (e4.version + 1)) e4.kind e4.name e4.code e4.n)), 0)
noncomputable def iChangeFS : Fsp := { fid := 149, ps := [⟨true, .base .notebook⟩, ⟨true, .base .edit⟩], rs := [⟨true, .base .notebook⟩, ⟨false, .base .int⟩], ex := false, fn := fun x => iChange x.1 x.2 }
noncomputable def iApplyEdit (a : GNotebook) (b : GEdit) : Option (GNotebook × Int) :=
  (iIsValidNotebook a).bind fun r1 =>
  bif (!r1) then
    (iCopyNotebook a).bind fun r2 =>
    some (r2, 1)
  else
    (iWithin b.kind 1 6).bind fun r3 =>
    bif (!r3) then
      (iCopyNotebook a).bind fun r4 =>
      some (r4, 1)
    else
      (iChange a b).bind fun r5 =>
      (iCopyNotebook r5.1).bind fun r6 =>
      some (r6, r5.2)
noncomputable def iApplyEditFS : Fsp := { fid := 74, ps := [⟨true, .base .notebook⟩, ⟨true, .base .edit⟩], rs := [⟨true, .base .notebook⟩, ⟨false, .base .int⟩], ex := true, fn := fun x => iApplyEdit x.1 x.2 }
noncomputable def iInverseEdit (a : GNotebook) (b : GEdit) : Option (GEdit × Bool) :=
  (iApplyEdit a b).bind fun r1 =>
  bif (r1.2 != 0) then
    some (GEdit.mk 0 0 (GCell.mk 0 0 0 [] [] 0), false)
  else
  (iCellIndex a b.cell.id).bind fun r2 =>
  bif (b.kind == 1) then
    some (GEdit.mk 2 0 (GCell.mk b.cell.id 0 0 [] [] 0), true)
  else
  bif (b.kind == 2) then
    (idx a.cells r2).bind fun e3 =>
    some (GEdit.mk 1 r2 e3, true)
  else
  bif (b.kind == 3) then
    some (GEdit.mk b.kind r2 (GCell.mk b.cell.id 0 0 [] [] 0), true)
  else
  bif (b.kind == 4) then
    (idx a.cells r2).bind fun e4 =>
    (idx a.cells r2).bind fun e5 =>
    some (GEdit.mk b.kind 0 (GCell.mk b.cell.id 0 0 e4.name e5.code 0), true)
  else
    bif (b.kind == 5) then
      (idx a.cells r2).bind fun e6 =>
      some (GEdit.mk b.kind 0 (GCell.mk b.cell.id 0 0 [] [] e6.n), true)
    else
      some (GEdit.mk b.kind 0 (GCell.mk b.cell.id 0 0 [] [] 0), true)
noncomputable def iInverseEditFS : Fsp := { fid := 73, ps := [⟨true, .base .notebook⟩, ⟨true, .base .edit⟩], rs := [⟨true, .base .edit⟩, ⟨false, .base .bool⟩], ex := true, fn := fun x => iInverseEdit x.1 x.2 }
noncomputable def iInverseBatch (a : GNotebook) (b : List GEdit) : Option ((List GEdit) × Bool) :=
  loopD (fun (x1 : (List GCell) × (List GEdit) × (List GEdit) × Int × Int) =>
    bif (decide (x1.2.2.2.2 < x1.2.2.2.1)) then
      (idx x1.2.2.1 x1.2.2.2.2).bind fun e2 =>
      (iInverseEdit (GNotebook.mk x1.1) e2).bind fun r3 =>
      bif (!r3.2) then
        some (.inr ([], false))
      else
        (iApplyEdit (GNotebook.mk x1.1) e2).bind fun r4 =>
        (gd ([r3.1].length + x1.2.1.length)).bind fun _ =>
        some (.inl (r4.1.cells, [r3.1] ++ x1.2.1, x1.2.2.1, x1.2.2.2.1, w64 (x1.2.2.2.2 + 1)))
    else
      some (.inr (x1.2.1, true))
  ) (a.cells, [], b, (b.length : Int), 0)
noncomputable def iInverseBatchFS : Fsp := { fid := 17, ps := [⟨true, .base .notebook⟩, ⟨false, .list (.base .edit)⟩], rs := [⟨false, .list (.base .edit)⟩, ⟨false, .base .bool⟩], ex := true, fn := fun x => iInverseBatch x.1 x.2 }
noncomputable def eqCell (a : GCell) (b : GCell) : Option (Bool) :=
  bif (a.id != b.id) then
    some (false)
  else
  bif (a.version != b.version) then
    some (false)
  else
  bif (a.kind != b.kind) then
    some (false)
  else
    bif (!(a.name == b.name)) then
      some (false)
    else
      bif (!(a.code == b.code)) then
        some (false)
      else
        bif (a.n != b.n) then
          some (false)
        else
          some (true)
noncomputable def eqCellFS : Fsp := { fid := 150, ps := [⟨true, .base .cell⟩, ⟨true, .base .cell⟩], rs := [⟨false, .base .bool⟩], ex := true, fn := fun x => eqCell x.1 x.2 }
noncomputable def eqEdit (a : GEdit) (b : GEdit) : Option (Bool) :=
  bif (a.kind != b.kind) then
    some (false)
  else
    bif (a.pos != b.pos) then
      some (false)
    else
      (eqCell a.cell b.cell).bind fun r1 =>
      bif (!r1) then
        some (false)
      else
        some (true)
noncomputable def eqEditFS : Fsp := { fid := 75, ps := [⟨true, .base .edit⟩, ⟨true, .base .edit⟩], rs := [⟨false, .base .bool⟩], ex := true, fn := fun x => eqEdit x.1 x.2 }
noncomputable def eqEditS (a : List GEdit) (b : List GEdit) : Option (Bool) :=
  bif ((a.length : Int) != (b.length : Int)) then
    some (false)
  else
  loopD (fun (x1 : (List GEdit) × (List GEdit) × Int) =>
    bif (decide (x1.2.2 < (x1.1.length : Int))) then
      (idx x1.1 x1.2.2).bind fun e2 =>
      (idx x1.2.1 x1.2.2).bind fun e3 =>
      (eqEdit e2 e3).bind fun r4 =>
      bif (!r4) then
        some (.inr (false))
      else
        some (.inl (x1.1, x1.2.1, w64 (x1.2.2 + 1)))
    else
      some (.inr (true))
  ) (a, b, 0)
noncomputable def eqEditSFS : Fsp := { fid := 18, ps := [⟨false, .list (.base .edit)⟩, ⟨false, .list (.base .edit)⟩], rs := [⟨false, .base .bool⟩], ex := true, fn := fun x => eqEditS x.1 x.2 }
noncomputable def eqCellS (a : List GCell) (b : List GCell) : Option (Bool) :=
  bif ((a.length : Int) != (b.length : Int)) then
    some (false)
  else
  loopD (fun (x1 : (List GCell) × (List GCell) × Int) =>
    bif (decide (x1.2.2 < (x1.1.length : Int))) then
      (idx x1.1 x1.2.2).bind fun e2 =>
      (idx x1.2.1 x1.2.2).bind fun e3 =>
      (eqCell e2 e3).bind fun r4 =>
      bif (!r4) then
        some (.inr (false))
      else
        some (.inl (x1.1, x1.2.1, w64 (x1.2.2 + 1)))
    else
      some (.inr (true))
  ) (a, b, 0)
noncomputable def eqCellSFS : Fsp := { fid := 76, ps := [⟨false, .list (.base .cell)⟩, ⟨false, .list (.base .cell)⟩], rs := [⟨false, .base .bool⟩], ex := true, fn := fun x => eqCellS x.1 x.2 }
noncomputable def eqNotebook (a : GNotebook) (b : GNotebook) : Option (Bool) :=
  (eqCellS a.cells b.cells).bind fun r1 =>
  bif (!r1) then
    some (false)
  else
    some (true)
noncomputable def eqNotebookFS : Fsp := { fid := 19, ps := [⟨true, .base .notebook⟩, ⟨true, .base .notebook⟩], rs := [⟨false, .base .bool⟩], ex := true, fn := fun x => eqNotebook x.1 x.2 }
noncomputable def markText (a : Int) : Option (Str) :=
  bif (decide (a ≤ 0)) then
    some ([109, 48])
  else
    loopD (fun (x1 : Int × Str) =>
      bif (decide (x1.1 > 0)) then
        (gd ((bytesOf [w8 (w64 (48 + (x1.1.tmod 10)))]).length + x1.2.length)).bind fun _ =>
        some (.inl (w64 (x1.1.tdiv 10), (bytesOf [w8 (w64 (48 + (x1.1.tmod 10)))]) ++ x1.2))
      else
        (
          (gd ([109].length + x1.2.length)).bind fun _ =>
          some ([109] ++ x1.2)
        ).bind fun r => some (.inr r)
    ) (a, [])
noncomputable def markTextFS : Fsp := { fid := 78, ps := [⟨false, .base .int⟩], rs := [⟨false, .base .str⟩], ex := true, fn := fun x => markText x }
noncomputable def markCellS (a : List GCell) (b : Int) : Option (List GCell × Int) :=
  loopD (fun (x : List GCell × Int × Int) =>
    bif (decide (x.2.1 < (x.1.length : Int))) then
      (idx x.1 x.2.1).bind fun _ =>
      (x.1[x.2.1.toNat]?).bind fun e1 =>
      (some (x.1.set x.2.1.toNat (GCell.mk x.2.2 e1.version e1.kind e1.name e1.code e1.n))).bind fun z2 =>
      (idx z2 x.2.1).bind fun _ =>
      (z2[x.2.1.toNat]?).bind fun e3 =>
      (some (z2.set x.2.1.toNat (GCell.mk e3.id (w64 (x.2.2 + 1)) e3.kind e3.name e3.code e3.n))).bind fun z4 =>
      (idx z4 x.2.1).bind fun _ =>
      (z4[x.2.1.toNat]?).bind fun e5 =>
      (some (z4.set x.2.1.toNat (GCell.mk e5.id e5.version (w64 ((w64 (x.2.2 + 1)) + 1)) e5.name e5.code e5.n))).bind fun z6 =>
      (markText (w64 ((w64 ((w64 (x.2.2 + 1)) + 1)) + 1))).bind fun t7 =>
      (idx z6 x.2.1).bind fun _ =>
      (z6[x.2.1.toNat]?).bind fun e8 =>
      (some (z6.set x.2.1.toNat (GCell.mk e8.id e8.version e8.kind t7 e8.code e8.n))).bind fun z9 =>
      (markText (w64 ((w64 ((w64 ((w64 (x.2.2 + 1)) + 1)) + 1)) + 1))).bind fun t10 =>
      (idx z9 x.2.1).bind fun _ =>
      (z9[x.2.1.toNat]?).bind fun e11 =>
      (some (z9.set x.2.1.toNat (GCell.mk e11.id e11.version e11.kind e11.name t10 e11.n))).bind fun z12 =>
      (idx z12 x.2.1).bind fun _ =>
      (z12[x.2.1.toNat]?).bind fun e13 =>
      (some (z12.set x.2.1.toNat (GCell.mk e13.id e13.version e13.kind e13.name e13.code (w64 ((w64 ((w64 ((w64 ((w64 (x.2.2 + 1)) + 1)) + 1)) + 1)) + 1))))).bind fun z14 =>
      some (.inl (z14, w64 (x.2.1 + 1), w64 ((w64 ((w64 ((w64 ((w64 ((w64 (x.2.2 + 1)) + 1)) + 1)) + 1)) + 1)) + 1)))
    else
      some (.inr (x.1, x.2.2))
  ) (a, 0, b)
noncomputable def markCellSMS : Msp := { fid := 77, sh := ⟨false, .list (.base .cell)⟩, fn := fun x n => markCellS x n }
noncomputable def markNotebook (a : GNotebook) (b : Int) : Option (GNotebook × Int) :=
  (markCellS a.cells b).bind fun r1 =>
  some (GNotebook.mk r1.1, r1.2)
noncomputable def markNotebookMS : Msp := { fid := 20, sh := ⟨true, .base .notebook⟩, fn := fun x n => markNotebook x n }
noncomputable def markEditS (a : List GEdit) (b : Int) : Option (List GEdit × Int) :=
  loopD (fun (x : List GEdit × Int × Int) =>
    bif (decide (x.2.1 < (x.1.length : Int))) then
      (idx x.1 x.2.1).bind fun _ =>
      (x.1[x.2.1.toNat]?).bind fun e1 =>
      (some (x.1.set x.2.1.toNat (GEdit.mk x.2.2 e1.pos e1.cell))).bind fun z2 =>
      (idx z2 x.2.1).bind fun _ =>
      (z2[x.2.1.toNat]?).bind fun e3 =>
      (some (z2.set x.2.1.toNat (GEdit.mk e3.kind (w64 (x.2.2 + 1)) e3.cell))).bind fun z4 =>
      (idx z4 x.2.1).bind fun _ =>
      (z4[x.2.1.toNat]?).bind fun e5 =>
      (some (z4.set x.2.1.toNat (GEdit.mk e5.kind e5.pos (GCell.mk (w64 ((w64 (x.2.2 + 1)) + 1)) e5.cell.version e5.cell.kind e5.cell.name e5.cell.code e5.cell.n)))).bind fun z6 =>
      (idx z6 x.2.1).bind fun _ =>
      (z6[x.2.1.toNat]?).bind fun e7 =>
      (some (z6.set x.2.1.toNat (GEdit.mk e7.kind e7.pos (GCell.mk e7.cell.id (w64 ((w64 ((w64 (x.2.2 + 1)) + 1)) + 1)) e7.cell.kind e7.cell.name e7.cell.code e7.cell.n)))).bind fun z8 =>
      (idx z8 x.2.1).bind fun _ =>
      (z8[x.2.1.toNat]?).bind fun e9 =>
      (some (z8.set x.2.1.toNat (GEdit.mk e9.kind e9.pos (GCell.mk e9.cell.id e9.cell.version (w64 ((w64 ((w64 ((w64 (x.2.2 + 1)) + 1)) + 1)) + 1)) e9.cell.name e9.cell.code e9.cell.n)))).bind fun z10 =>
      (markText (w64 ((w64 ((w64 ((w64 ((w64 (x.2.2 + 1)) + 1)) + 1)) + 1)) + 1))).bind fun t11 =>
      (idx z10 x.2.1).bind fun _ =>
      (z10[x.2.1.toNat]?).bind fun e12 =>
      (some (z10.set x.2.1.toNat (GEdit.mk e12.kind e12.pos (GCell.mk e12.cell.id e12.cell.version e12.cell.kind t11 e12.cell.code e12.cell.n)))).bind fun z13 =>
      (markText (w64 ((w64 ((w64 ((w64 ((w64 ((w64 (x.2.2 + 1)) + 1)) + 1)) + 1)) + 1)) + 1))).bind fun t14 =>
      (idx z13 x.2.1).bind fun _ =>
      (z13[x.2.1.toNat]?).bind fun e15 =>
      (some (z13.set x.2.1.toNat (GEdit.mk e15.kind e15.pos (GCell.mk e15.cell.id e15.cell.version e15.cell.kind e15.cell.name t14 e15.cell.n)))).bind fun z16 =>
      (idx z16 x.2.1).bind fun _ =>
      (z16[x.2.1.toNat]?).bind fun e17 =>
      (some (z16.set x.2.1.toNat (GEdit.mk e17.kind e17.pos (GCell.mk e17.cell.id e17.cell.version e17.cell.kind e17.cell.name e17.cell.code (w64 ((w64 ((w64 ((w64 ((w64 ((w64 ((w64 (x.2.2 + 1)) + 1)) + 1)) + 1)) + 1)) + 1)) + 1)))))).bind fun z18 =>
      some (.inl (z18, w64 (x.2.1 + 1), w64 ((w64 ((w64 ((w64 ((w64 ((w64 ((w64 ((w64 (x.2.2 + 1)) + 1)) + 1)) + 1)) + 1)) + 1)) + 1)) + 1)))
    else
      some (.inr (x.1, x.2.2))
  ) (a, 0, b)
noncomputable def markEditSMS : Msp := { fid := 21, sh := ⟨false, .list (.base .edit)⟩, fn := fun x n => markEditS x n }
noncomputable def heldEditS (a : List GEdit) (b : Int) : Option (Int) :=
  loopD (fun (x1 : (List GEdit) × Int × Int) =>
    bif (decide (x1.2.2 < (x1.1.length : Int))) then
      (idx x1.1 x1.2.2).bind fun e2 =>
      bif (e2.kind != x1.2.1) then
        some (.inr ((-1)))
      else
      (idx x1.1 x1.2.2).bind fun e3 =>
      bif (e3.pos != (w64 (x1.2.1 + 1))) then
        some (.inr ((-1)))
      else
      (idx x1.1 x1.2.2).bind fun e4 =>
      bif (e4.cell.id != (w64 ((w64 (x1.2.1 + 1)) + 1))) then
        some (.inr ((-1)))
      else
      (idx x1.1 x1.2.2).bind fun e5 =>
      bif (e5.cell.version != (w64 ((w64 ((w64 (x1.2.1 + 1)) + 1)) + 1))) then
        some (.inr ((-1)))
      else
      (idx x1.1 x1.2.2).bind fun e6 =>
      bif (e6.cell.kind != (w64 ((w64 ((w64 ((w64 (x1.2.1 + 1)) + 1)) + 1)) + 1))) then
        some (.inr ((-1)))
      else
      (idx x1.1 x1.2.2).bind fun e7 =>
      (markText (w64 ((w64 ((w64 ((w64 ((w64 (x1.2.1 + 1)) + 1)) + 1)) + 1)) + 1))).bind fun r8 =>
      bif (!(e7.cell.name == r8)) then
        some (.inr ((-1)))
      else
      (idx x1.1 x1.2.2).bind fun e9 =>
      (markText (w64 ((w64 ((w64 ((w64 ((w64 ((w64 (x1.2.1 + 1)) + 1)) + 1)) + 1)) + 1)) + 1))).bind fun r10 =>
      bif (!(e9.cell.code == r10)) then
        some (.inr ((-1)))
      else
        (idx x1.1 x1.2.2).bind fun e11 =>
        bif (e11.cell.n != (w64 ((w64 ((w64 ((w64 ((w64 ((w64 ((w64 (x1.2.1 + 1)) + 1)) + 1)) + 1)) + 1)) + 1)) + 1))) then
          some (.inr ((-1)))
        else
          some (.inl (x1.1, w64 ((w64 ((w64 ((w64 ((w64 ((w64 ((w64 ((w64 (x1.2.1 + 1)) + 1)) + 1)) + 1)) + 1)) + 1)) + 1)) + 1), w64 (x1.2.2 + 1)))
    else
      some (.inr (x1.2.1))
  ) (a, b, 0)
noncomputable def heldEditSFS : Fsp := { fid := 22, ps := [⟨false, .list (.base .edit)⟩, ⟨false, .base .int⟩], rs := [⟨false, .base .int⟩], ex := true, fn := fun x => heldEditS x.1 x.2 }
noncomputable def FnExactInverseBatch (a : GNotebook) (b : List GEdit) : Option (Bool) :=
  (szNotebook a 1048576).bind fun r1 =>
  bif (decide (r1 < 0)) then
    some (true)
  else
  (szEditS b r1).bind fun r2 =>
  bif (decide (r2 < 0)) then
    some (true)
  else
  (toNotebook a).bind fun r3 =>
  (toEditS b).bind fun r4 =>
  (sInverseBatch r3 r4).bind fun r5 =>
  (toNotebook a).bind fun r6 =>
  (toEditS b).bind fun r7 =>
  (iInverseBatch r6 r7).bind fun r8 =>
  (eqEditS r8.1 r5.1).bind fun r9 =>
  bif (!r9) then
    some (false)
  else
  bif (!(r8.2 == r5.2)) then
    some (false)
  else
  (toNotebook a).bind fun r10 =>
  (eqNotebook r6 r10).bind fun r11 =>
  bif (!r11) then
    some (false)
  else
  (toEditS b).bind fun r12 =>
  (eqEditS r7 r12).bind fun r13 =>
  bif (!r13) then
    some (false)
  else
  (markNotebook r6 1).bind fun r14 =>
  (markEditS r7 r14.2).bind fun r15 =>
  bif (decide (r15.2 < 0)) then
    some (false)
  else
  (eqEditS r8.1 r5.1).bind fun r16 =>
  bif (!r16) then
    some (false)
  else
  bif (!(r8.2 == r5.2)) then
    some (false)
  else
  (markEditS r8.1 1).bind fun r17 =>
  (heldEditS r17.1 1).bind fun r18 =>
  bif (decide (r18 < 0)) then
    some (false)
  else
  bif (r18 != r17.2) then
    some (false)
  else
  (toNotebook a).bind fun r19 =>
  (toEditS b).bind fun r20 =>
  (iInverseBatch r19 r20).bind fun r21 =>
  (eqEditS r21.1 r5.1).bind fun r22 =>
  bif (!r22) then
    some (false)
  else
  bif (!(r21.2 == r5.2)) then
    some (false)
  else
    (heldEditS r17.1 1).bind fun r23 =>
    bif (decide (r23 < 0)) then
      some (false)
    else
      bif (r23 != r17.2) then
        some (false)
      else
        some (true)
noncomputable def FnExactInverseBatchFS : Fsp := { fid := 3, ps := [⟨true, .base .notebook⟩, ⟨false, .list (.base .edit)⟩], rs := [⟨false, .base .bool⟩], ex := true, fn := fun x => FnExactInverseBatch x.1 x.2 }
noncomputable def szNode (a : GNode) (b : Int) : Option (Int) :=
  (szEditS a.edits b).bind fun r1 =>
  bif (decide (r1 < 0)) then
    some ((-1))
  else
    (szEditS a.undo r1).bind fun r2 =>
    bif (decide (r2 < 0)) then
      some ((-1))
    else
      some (r2)
noncomputable def szNodeFS : Fsp := { fid := 151, ps := [⟨true, .base .node⟩, ⟨false, .base .int⟩], rs := [⟨false, .base .int⟩], ex := true, fn := fun x => szNode x.1 x.2 }
noncomputable def szNodeS (a : List GNode) (b : Int) : Option (Int) :=
  bif (decide ((w64 (b - (a.length : Int))) < 0)) then
    some ((-1))
  else
  loopD (fun (x1 : (List GNode) × Int × Int) =>
    bif (decide (x1.2.2 < (x1.1.length : Int))) then
      (idx x1.1 x1.2.2).bind fun e2 =>
      (szNode e2 x1.2.1).bind fun r3 =>
      bif (decide (r3 < 0)) then
        some (.inr ((-1)))
      else
        some (.inl (x1.1, r3, w64 (x1.2.2 + 1)))
    else
      some (.inr (x1.2.1))
  ) (a, w64 (b - (a.length : Int)), 0)
noncomputable def szNodeSFS : Fsp := { fid := 79, ps := [⟨false, .list (.base .node)⟩, ⟨false, .base .int⟩], rs := [⟨false, .base .int⟩], ex := true, fn := fun x => szNodeS x.1 x.2 }
noncomputable def szHistory (a : GHistory) (b : Int) : Option (Int) :=
  (szNotebook a.notebook b).bind fun r1 =>
  bif (decide (r1 < 0)) then
    some ((-1))
  else
    (szNodeS a.nodes r1).bind fun r2 =>
    bif (decide (r2 < 0)) then
      some ((-1))
    else
      some (r2)
noncomputable def szHistoryFS : Fsp := { fid := 23, ps := [⟨true, .base .history⟩, ⟨false, .base .int⟩], rs := [⟨false, .base .int⟩], ex := true, fn := fun x => szHistory x.1 x.2 }
noncomputable def sIsValidHistory (a : GHistory) : Option (Bool) :=
  loopD (fun (x1 : (List GCell) × (List GNode) × Int × Int × Int) =>
    bif (decide (x1.2.2.2.2 < x1.2.2.2.1)) then
      bif (x1.2.2.2.2 == 0) then
        (idx x1.2.1 0).bind fun e2 =>
        bif (e2.parent != (-1)) then
          some (.inr (false))
        else
          bif (decide (x1.2.2.2.2 > 0)) then
            (idx x1.2.1 x1.2.2.2.2).bind fun e3 =>
            (sL1In e3.parent 0 (w64 (x1.2.2.2.2 - 1))).bind fun r4 =>
            bif (!r4) then
              some (.inr (false))
            else
              some (.inl (x1.1, x1.2.1, x1.2.2.1, x1.2.2.2.1, w64 (x1.2.2.2.2 + 1)))
          else
            some (.inl (x1.1, x1.2.1, x1.2.2.1, x1.2.2.2.1, w64 (x1.2.2.2.2 + 1)))
      else
        bif (decide (x1.2.2.2.2 > 0)) then
          (idx x1.2.1 x1.2.2.2.2).bind fun e5 =>
          (sL1In e5.parent 0 (w64 (x1.2.2.2.2 - 1))).bind fun r6 =>
          bif (!r6) then
            some (.inr (false))
          else
            some (.inl (x1.1, x1.2.1, x1.2.2.1, x1.2.2.2.1, w64 (x1.2.2.2.2 + 1)))
        else
          some (.inl (x1.1, x1.2.1, x1.2.2.1, x1.2.2.2.1, w64 (x1.2.2.2.2 + 1)))
    else
    (
      (sIsValidNotebook (GNotebook.mk x1.1)).bind fun r7 =>
      bif r7 then
        (sL1In x1.2.2.2.1 1 20).bind fun r8 =>
        bif r8 then
          (sL1In x1.2.2.1 0 (w64 (x1.2.2.2.1 - 1))).bind fun r9 =>
          some (r9)
        else
          some (false)
      else
        some (false)
    ).bind fun r => some (.inr r)
  ) (a.notebook.cells, a.nodes, a.pos, (a.nodes.length : Int), 0)
noncomputable def sIsValidHistoryFS : Fsp := { fid := 80, ps := [⟨true, .base .history⟩], rs := [⟨false, .base .bool⟩], ex := true, fn := fun x => sIsValidHistory x }
noncomputable def sL40Edits (a : List GEdit) : Option ((List GEdit)) :=
  (gd (0 + a.length)).bind fun _ =>
  some ([] ++ a)
noncomputable def sL40EditsFS : Fsp := { fid := 94, ps := [⟨false, .list (.base .edit)⟩], rs := [⟨false, .list (.base .edit)⟩], ex := true, fn := fun x => sL40Edits x }
noncomputable def sL40Copy (a : GHistory) : Option (GHistory) :=
  (sL17Copy a.notebook).bind fun r1 =>
  loopD (fun (x2 : (List GCell) × (List GNode) × Int × (List GCell) × (List GNode) × Int × (List GCell) × (List GNode) × Int × Int) =>
    bif (decide (x2.2.2.2.2.2.2.2.2.2 < (x2.2.1.length : Int))) then
      (idx x2.2.1 x2.2.2.2.2.2.2.2.2.2).bind fun e3 =>
      (sL40Edits e3.edits).bind fun r4 =>
      (sL40Edits e3.undo).bind fun r5 =>
      (gd (x2.2.2.2.2.2.2.2.1.length + [GNode.mk e3.parent r4 r5].length)).bind fun _ =>
      some (.inl (x2.1, x2.2.1, x2.2.2.1, x2.2.2.2.1, x2.2.2.2.2.1, x2.2.2.2.2.2.1, x2.2.2.2.2.2.2.1, x2.2.2.2.2.2.2.2.1 ++ [GNode.mk e3.parent r4 r5], x2.2.2.2.2.2.2.2.2.1, w64 (x2.2.2.2.2.2.2.2.2.2 + 1)))
    else
      some (.inr (GHistory.mk (GNotebook.mk x2.2.2.2.2.2.2.1) x2.2.2.2.2.2.2.2.1 x2.2.2.2.2.2.2.2.2.1))
  ) (a.notebook.cells, a.nodes, a.pos, [], [], 0, r1.cells, [], a.pos, 0)
noncomputable def sL40CopyFS : Fsp := { fid := 82, ps := [⟨true, .base .history⟩], rs := [⟨true, .base .history⟩], ex := true, fn := fun x => sL40Copy x }
noncomputable def sApplyBatch (a : GNotebook) (b : List GEdit) : Option (GNotebook × Int) :=
  (sL17Copy a).bind fun r1 =>
  loopD (fun (x2 : (List GEdit) × (List GCell) × (List GCell) × (List GCell) × Int) =>
    bif (decide (x2.2.2.2.2 < (x2.1.length : Int))) then
      (idx x2.1 x2.2.2.2.2).bind fun e3 =>
      (sApplyEdit (GNotebook.mk x2.2.2.2.1) e3).bind fun r4 =>
      bif (r4.2 != 0) then
        (sL17Copy (GNotebook.mk x2.2.1)).bind fun r5 =>
        some (.inr (r5, x2.2.2.2.2))
      else
        some (.inl (x2.1, x2.2.1, x2.2.2.1, r4.1.cells, w64 (x2.2.2.2.2 + 1)))
    else
      some (.inr (GNotebook.mk x2.2.2.2.1, (-1)))
  ) (b, a.cells, [], r1.cells, 0)
noncomputable def sApplyBatchFS : Fsp := { fid := 93, ps := [⟨true, .base .notebook⟩, ⟨false, .list (.base .edit)⟩], rs := [⟨true, .base .notebook⟩, ⟨false, .base .int⟩], ex := true, fn := fun x => sApplyBatch x.1 x.2 }
noncomputable def sL40Move (a : GHistory) (b : List GEdit) (c : Int) : Option (GHistory × Bool) :=
  (sL40Copy a).bind fun r1 =>
  (sApplyBatch a.notebook b).bind fun r2 =>
  bif (decide (r2.2 ≥ 0)) then
    some (r1, false)
  else
    some (GHistory.mk r2.1 r1.nodes c, true)
noncomputable def sL40MoveFS : Fsp := { fid := 83, ps := [⟨true, .base .history⟩, ⟨false, .list (.base .edit)⟩, ⟨false, .base .int⟩], rs := [⟨true, .base .history⟩, ⟨false, .base .bool⟩], ex := true, fn := fun x => sL40Move x.1 x.2.1 x.2.2 }
noncomputable def sRedoEdits (a : GHistory) (b : Int) : Option (GHistory × Bool) :=
  (sIsValidHistory a).bind fun r1 =>
  bif (!r1) then
    (sL40Copy a).bind fun r2 =>
    some (r2, false)
  else
  (sL1In b 1 (w64 ((a.nodes.length : Int) - 1))).bind fun r3 =>
  bif (!r3) then
    (sL40Copy a).bind fun r4 =>
    some (r4, false)
  else
    (idx a.nodes b).bind fun e5 =>
    bif (e5.parent != a.pos) then
      (sL40Copy a).bind fun r6 =>
      some (r6, false)
    else
      (idx a.nodes b).bind fun e7 =>
      (sL40Move a e7.edits b).bind fun r8 =>
      some (r8.1, r8.2)
noncomputable def sRedoEditsFS : Fsp := { fid := 24, ps := [⟨true, .base .history⟩, ⟨false, .base .int⟩], rs := [⟨true, .base .history⟩, ⟨false, .base .bool⟩], ex := true, fn := fun x => sRedoEdits x.1 x.2 }
noncomputable def toNode (a : GNode) : Option (GNode) :=
  (toEditS a.edits).bind fun r1 =>
  (toEditS a.undo).bind fun r2 =>
  some (GNode.mk a.parent r1 r2)
noncomputable def toNodeFS : Fsp := { fid := 152, ps := [⟨true, .base .node⟩], rs := [⟨true, .base .node⟩], ex := true, fn := fun x => toNode x }
noncomputable def toNodeS (a : List GNode) : Option ((List GNode)) :=
  (mk (a.length : Int)).bind fun m1 =>
  loopD (fun (x2 : (List GNode) × (List GNode) × Int) =>
    bif (decide (x2.2.2 < (x2.1.length : Int))) then
      (idx x2.1 x2.2.2).bind fun e3 =>
      (toNode e3).bind fun r4 =>
      (idx x2.2.1 x2.2.2).bind fun _ =>
      (x2.2.1[x2.2.2.toNat]?).bind fun e6 =>
      some (.inl (x2.1, x2.2.1.set x2.2.2.toNat r4, w64 (x2.2.2 + 1)))
    else
      some (.inr (x2.2.1))
  ) (a, List.replicate m1 (GNode.mk 0 [] []), 0)
noncomputable def toNodeSFS : Fsp := { fid := 84, ps := [⟨false, .list (.base .node)⟩], rs := [⟨false, .list (.base .node)⟩], ex := true, fn := fun x => toNodeS x }
noncomputable def toHistory (a : GHistory) : Option (GHistory) :=
  (toNotebook a.notebook).bind fun r1 =>
  (toNodeS a.nodes).bind fun r2 =>
  some (GHistory.mk r1 r2 a.pos)
noncomputable def toHistoryFS : Fsp := { fid := 25, ps := [⟨true, .base .history⟩], rs := [⟨true, .base .history⟩], ex := true, fn := fun x => toHistory x }
noncomputable def iIsValidHistory (a : GHistory) : Option (Bool) :=
  (iIsValidNotebook a.notebook).bind fun r1 =>
  bif (!r1) then
    some (false)
  else
  (iWithin (a.nodes.length : Int) 1 20).bind fun r2 =>
  bif (!r2) then
    some (false)
  else
  (idx a.nodes 0).bind fun e3 =>
  bif (e3.parent != (-1)) then
    some (false)
  else
  (iWithin a.pos 0 (w64 ((a.nodes.length : Int) - 1))).bind fun r4 =>
  bif (!r4) then
    some (false)
  else
  (eff.cutL a.nodes (some 1) none).bind fun r5 =>
  loopD (fun (x6 : (List GNode) × Int × Int) =>
    bif (decide (x6.2.2 < x6.2.1)) then
      (idx x6.1 x6.2.2).bind fun e7 =>
      (iWithin e7.parent 0 x6.2.2).bind fun r8 =>
      bif (!r8) then
        some (.inr (false))
      else
        some (.inl (x6.1, x6.2.1, w64 (x6.2.2 + 1)))
    else
      some (.inr (true))
  ) (r5, (r5.length : Int), 0)
noncomputable def iIsValidHistoryFS : Fsp := { fid := 85, ps := [⟨true, .base .history⟩], rs := [⟨false, .base .bool⟩], ex := true, fn := fun x => iIsValidHistory x }
noncomputable def iCopyEdits (a : List GEdit) : Option ((List GEdit)) :=
  (gd (0 + a.length)).bind fun _ =>
  some ([] ++ a)
noncomputable def iCopyEditsFS : Fsp := { fid := 95, ps := [⟨false, .list (.base .edit)⟩], rs := [⟨false, .list (.base .edit)⟩], ex := true, fn := fun x => iCopyEdits x }
noncomputable def iCopyHistory (a : GHistory) : Option (GHistory) :=
  (iCopyNotebook a.notebook).bind fun r1 =>
  loopD (fun (x2 : (List GCell) × (List GNode) × Int × (List GCell) × (List GNode) × Int × (List GNode) × Int × Int) =>
    bif (decide (x2.2.2.2.2.2.2.2.2 < x2.2.2.2.2.2.2.2.1)) then
      (idx x2.2.2.2.2.2.2.1 x2.2.2.2.2.2.2.2.2).bind fun e3 =>
      (iCopyEdits e3.edits).bind fun r4 =>
      (iCopyEdits e3.undo).bind fun r5 =>
      (gd (x2.2.2.2.2.1.length + [GNode.mk e3.parent r4 r5].length)).bind fun _ =>
      some (.inl (x2.1, x2.2.1, x2.2.2.1, x2.2.2.2.1, x2.2.2.2.2.1 ++ [GNode.mk e3.parent r4 r5], x2.2.2.2.2.2.1, x2.2.2.2.2.2.2.1, x2.2.2.2.2.2.2.2.1, w64 (x2.2.2.2.2.2.2.2.2 + 1)))
    else
      some (.inr (GHistory.mk (GNotebook.mk x2.2.2.2.1) x2.2.2.2.2.1 x2.2.2.2.2.2.1))
  ) ([], [], 0, r1.cells, [], a.pos, a.nodes, (a.nodes.length : Int), 0)
noncomputable def iCopyHistoryFS : Fsp := { fid := 87, ps := [⟨true, .base .history⟩], rs := [⟨true, .base .history⟩], ex := true, fn := fun x => iCopyHistory x }
noncomputable def iApplyBatch (a : GNotebook) (b : List GEdit) : Option (GNotebook × Int) :=
  (iCopyNotebook a).bind fun r1 =>
  loopD (fun (x2 : (List GCell) × (List GCell) × (List GCell) × (List GEdit) × Int × Int) =>
    bif (decide (x2.2.2.2.2.2 < x2.2.2.2.2.1)) then
      (idx x2.2.2.2.1 x2.2.2.2.2.2).bind fun e3 =>
      (iApplyEdit (GNotebook.mk x2.2.2.1) e3).bind fun r4 =>
      bif (r4.2 != 0) then
        (iCopyNotebook (GNotebook.mk x2.1)).bind fun r5 =>
        some (.inr (r5, x2.2.2.2.2.2))
      else
        some (.inl (x2.1, x2.2.1, r4.1.cells, x2.2.2.2.1, x2.2.2.2.2.1, w64 (x2.2.2.2.2.2 + 1)))
    else
      some (.inr (GNotebook.mk x2.2.2.1, (-1)))
  ) (a.cells, [], r1.cells, b, (b.length : Int), 0)
noncomputable def iApplyBatchFS : Fsp := { fid := 153, ps := [⟨true, .base .notebook⟩, ⟨false, .list (.base .edit)⟩], rs := [⟨true, .base .notebook⟩, ⟨false, .base .int⟩], ex := true, fn := fun x => iApplyBatch x.1 x.2 }
noncomputable def iStep (a : GHistory) (b : List GEdit) (c : Int) : Option (GHistory × Bool) :=
  (iCopyHistory a).bind fun r1 =>
  (iApplyBatch a.notebook b).bind fun r2 =>
  bif (decide (r2.2 ≥ 0)) then
    some (r1, false)
  else
    some (GHistory.mk r2.1 r1.nodes c, true)
noncomputable def iStepFS : Fsp := { fid := 88, ps := [⟨true, .base .history⟩, ⟨false, .list (.base .edit)⟩, ⟨false, .base .int⟩], rs := [⟨true, .base .history⟩, ⟨false, .base .bool⟩], ex := true, fn := fun x => iStep x.1 x.2.1 x.2.2 }
noncomputable def iRedoEdits (a : GHistory) (b : Int) : Option (GHistory × Bool) :=
  (iIsValidHistory a).bind fun r1 =>
  bif (!r1) then
    (iCopyHistory a).bind fun r2 =>
    some (r2, false)
  else
  (iWithin b 0 (w64 ((a.nodes.length : Int) - 1))).bind fun r3 =>
  bif (!r3) then
    (iCopyHistory a).bind fun r4 =>
    some (r4, false)
  else
    (idx a.nodes b).bind fun e5 =>
    bif (e5.parent != a.pos) then
      (iCopyHistory a).bind fun r6 =>
      some (r6, false)
    else
      (idx a.nodes b).bind fun e7 =>
      (iStep a e7.edits b).bind fun r8 =>
      some (r8.1, r8.2)
noncomputable def iRedoEditsFS : Fsp := { fid := 26, ps := [⟨true, .base .history⟩, ⟨false, .base .int⟩], rs := [⟨true, .base .history⟩, ⟨false, .base .bool⟩], ex := true, fn := fun x => iRedoEdits x.1 x.2 }
noncomputable def eqNode (a : GNode) (b : GNode) : Option (Bool) :=
  bif (a.parent != b.parent) then
    some (false)
  else
    (eqEditS a.edits b.edits).bind fun r1 =>
    bif (!r1) then
      some (false)
    else
      (eqEditS a.undo b.undo).bind fun r2 =>
      bif (!r2) then
        some (false)
      else
        some (true)
noncomputable def eqNodeFS : Fsp := { fid := 154, ps := [⟨true, .base .node⟩, ⟨true, .base .node⟩], rs := [⟨false, .base .bool⟩], ex := true, fn := fun x => eqNode x.1 x.2 }
noncomputable def eqNodeS (a : List GNode) (b : List GNode) : Option (Bool) :=
  bif ((a.length : Int) != (b.length : Int)) then
    some (false)
  else
  loopD (fun (x1 : (List GNode) × (List GNode) × Int) =>
    bif (decide (x1.2.2 < (x1.1.length : Int))) then
      (idx x1.1 x1.2.2).bind fun e2 =>
      (idx x1.2.1 x1.2.2).bind fun e3 =>
      (eqNode e2 e3).bind fun r4 =>
      bif (!r4) then
        some (.inr (false))
      else
        some (.inl (x1.1, x1.2.1, w64 (x1.2.2 + 1)))
    else
      some (.inr (true))
  ) (a, b, 0)
noncomputable def eqNodeSFS : Fsp := { fid := 89, ps := [⟨false, .list (.base .node)⟩, ⟨false, .list (.base .node)⟩], rs := [⟨false, .base .bool⟩], ex := true, fn := fun x => eqNodeS x.1 x.2 }
noncomputable def eqHistory (a : GHistory) (b : GHistory) : Option (Bool) :=
  (eqNotebook a.notebook b.notebook).bind fun r1 =>
  bif (!r1) then
    some (false)
  else
    (eqNodeS a.nodes b.nodes).bind fun r2 =>
    bif (!r2) then
      some (false)
    else
      bif (a.pos != b.pos) then
        some (false)
      else
        some (true)
noncomputable def eqHistoryFS : Fsp := { fid := 27, ps := [⟨true, .base .history⟩, ⟨true, .base .history⟩], rs := [⟨false, .base .bool⟩], ex := true, fn := fun x => eqHistory x.1 x.2 }
noncomputable def markNodeS (a : List GNode) (b : Int) : Option (List GNode × Int) :=
  loopD (fun (x : List GNode × Int × Int) =>
    bif (decide (x.2.1 < (x.1.length : Int))) then
      (idx x.1 x.2.1).bind fun _ =>
      (x.1[x.2.1.toNat]?).bind fun e1 =>
      (some (x.1.set x.2.1.toNat (GNode.mk x.2.2 e1.edits e1.undo))).bind fun z2 =>
      (idx z2 x.2.1).bind fun _ =>
      (z2[x.2.1.toNat]?).bind fun e3 =>
      (z2[x.2.1.toNat]?).bind fun e4 =>
      (markEditS e4.edits (w64 (x.2.2 + 1))).bind fun r5 =>
      (some (z2.set x.2.1.toNat (GNode.mk e4.parent r5.1 e4.undo))).bind fun z6 =>
      (idx z6 x.2.1).bind fun _ =>
      (z6[x.2.1.toNat]?).bind fun e7 =>
      (z6[x.2.1.toNat]?).bind fun e8 =>
      (markEditS e8.undo r5.2).bind fun r9 =>
      (some (z6.set x.2.1.toNat (GNode.mk e8.parent e8.edits r9.1))).bind fun z10 =>
      some (.inl (z10, w64 (x.2.1 + 1), r9.2))
    else
      some (.inr (x.1, x.2.2))
  ) (a, 0, b)
noncomputable def markNodeSMS : Msp := { fid := 90, sh := ⟨false, .list (.base .node)⟩, fn := fun x n => markNodeS x n }
noncomputable def markHistory (a : GHistory) (b : Int) : Option (GHistory × Int) :=
  (markNotebook a.notebook b).bind fun r1 =>
  (markNodeS a.nodes r1.2).bind fun r2 =>
  some (GHistory.mk r1.1 r2.1 a.pos, r2.2)
noncomputable def markHistoryMS : Msp := { fid := 28, sh := ⟨true, .base .history⟩, fn := fun x n => markHistory x n }
noncomputable def heldCellS (a : List GCell) (b : Int) : Option (Int) :=
  loopD (fun (x1 : (List GCell) × Int × Int) =>
    bif (decide (x1.2.2 < (x1.1.length : Int))) then
      (idx x1.1 x1.2.2).bind fun e2 =>
      bif (e2.id != x1.2.1) then
        some (.inr ((-1)))
      else
      (idx x1.1 x1.2.2).bind fun e3 =>
      bif (e3.version != (w64 (x1.2.1 + 1))) then
        some (.inr ((-1)))
      else
      (idx x1.1 x1.2.2).bind fun e4 =>
      bif (e4.kind != (w64 ((w64 (x1.2.1 + 1)) + 1))) then
        some (.inr ((-1)))
      else
      (idx x1.1 x1.2.2).bind fun e5 =>
      (markText (w64 ((w64 ((w64 (x1.2.1 + 1)) + 1)) + 1))).bind fun r6 =>
      bif (!(e5.name == r6)) then
        some (.inr ((-1)))
      else
      (idx x1.1 x1.2.2).bind fun e7 =>
      (markText (w64 ((w64 ((w64 ((w64 (x1.2.1 + 1)) + 1)) + 1)) + 1))).bind fun r8 =>
      bif (!(e7.code == r8)) then
        some (.inr ((-1)))
      else
        (idx x1.1 x1.2.2).bind fun e9 =>
        bif (e9.n != (w64 ((w64 ((w64 ((w64 ((w64 (x1.2.1 + 1)) + 1)) + 1)) + 1)) + 1))) then
          some (.inr ((-1)))
        else
          some (.inl (x1.1, w64 ((w64 ((w64 ((w64 ((w64 ((w64 (x1.2.1 + 1)) + 1)) + 1)) + 1)) + 1)) + 1), w64 (x1.2.2 + 1)))
    else
      some (.inr (x1.2.1))
  ) (a, b, 0)
noncomputable def heldCellSFS : Fsp := { fid := 155, ps := [⟨false, .list (.base .cell)⟩, ⟨false, .base .int⟩], rs := [⟨false, .base .int⟩], ex := true, fn := fun x => heldCellS x.1 x.2 }
noncomputable def heldNotebook (a : GNotebook) (b : Int) : Option (Int) :=
  (heldCellS a.cells b).bind fun r1 =>
  bif (decide (r1 < 0)) then
    some ((-1))
  else
    some (r1)
noncomputable def heldNotebookFS : Fsp := { fid := 91, ps := [⟨true, .base .notebook⟩, ⟨false, .base .int⟩], rs := [⟨false, .base .int⟩], ex := true, fn := fun x => heldNotebook x.1 x.2 }
noncomputable def heldNodeS (a : List GNode) (b : Int) : Option (Int) :=
  loopD (fun (x1 : (List GNode) × Int × Int) =>
    bif (decide (x1.2.2 < (x1.1.length : Int))) then
      (idx x1.1 x1.2.2).bind fun e2 =>
      bif (e2.parent != x1.2.1) then
        some (.inr ((-1)))
      else
      (idx x1.1 x1.2.2).bind fun e3 =>
      (heldEditS e3.edits (w64 (x1.2.1 + 1))).bind fun r4 =>
      bif (decide (r4 < 0)) then
        some (.inr ((-1)))
      else
        (idx x1.1 x1.2.2).bind fun e5 =>
        (heldEditS e5.undo r4).bind fun r6 =>
        bif (decide (r6 < 0)) then
          some (.inr ((-1)))
        else
          some (.inl (x1.1, r6, w64 (x1.2.2 + 1)))
    else
      some (.inr (x1.2.1))
  ) (a, b, 0)
noncomputable def heldNodeSFS : Fsp := { fid := 92, ps := [⟨false, .list (.base .node)⟩, ⟨false, .base .int⟩], rs := [⟨false, .base .int⟩], ex := true, fn := fun x => heldNodeS x.1 x.2 }
noncomputable def heldHistory (a : GHistory) (b : Int) : Option (Int) :=
  (heldNotebook a.notebook b).bind fun r1 =>
  bif (decide (r1 < 0)) then
    some ((-1))
  else
    (heldNodeS a.nodes r1).bind fun r2 =>
    bif (decide (r2 < 0)) then
      some ((-1))
    else
      some (r2)
noncomputable def heldHistoryFS : Fsp := { fid := 29, ps := [⟨true, .base .history⟩, ⟨false, .base .int⟩], rs := [⟨false, .base .int⟩], ex := true, fn := fun x => heldHistory x.1 x.2 }
noncomputable def FnExactRedoEdits (a : GHistory) (b : Int) : Option (Bool) :=
  (szHistory a 1048576).bind fun r1 =>
  bif (decide (r1 < 0)) then
    some (true)
  else
  (toHistory a).bind fun r2 =>
  (sRedoEdits r2 b).bind fun r3 =>
  (toHistory a).bind fun r4 =>
  (iRedoEdits r4 b).bind fun r5 =>
  (eqHistory r5.1 r3.1).bind fun r6 =>
  bif (!r6) then
    some (false)
  else
  bif (!(r5.2 == r3.2)) then
    some (false)
  else
  (toHistory a).bind fun r7 =>
  (eqHistory r4 r7).bind fun r8 =>
  bif (!r8) then
    some (false)
  else
  (markHistory r4 1).bind fun r9 =>
  bif (decide (r9.2 < 0)) then
    some (false)
  else
  (eqHistory r5.1 r3.1).bind fun r10 =>
  bif (!r10) then
    some (false)
  else
  bif (!(r5.2 == r3.2)) then
    some (false)
  else
  (markHistory r5.1 1).bind fun r11 =>
  (heldHistory (GHistory.mk r11.1.notebook r11.1.nodes r5.1.pos) 1).bind fun r12 =>
  bif (decide (r12 < 0)) then
    some (false)
  else
  bif (r12 != r11.2) then
    some (false)
  else
  (toHistory a).bind fun r13 =>
  (iRedoEdits r13 b).bind fun r14 =>
  (eqHistory r14.1 r3.1).bind fun r15 =>
  bif (!r15) then
    some (false)
  else
  bif (!(r14.2 == r3.2)) then
    some (false)
  else
    (heldHistory (GHistory.mk r11.1.notebook r11.1.nodes r5.1.pos) 1).bind fun r16 =>
    bif (decide (r16 < 0)) then
      some (false)
    else
      bif (r16 != r11.2) then
        some (false)
      else
        some (true)
noncomputable def FnExactRedoEditsFS : Fsp := { fid := 4, ps := [⟨true, .base .history⟩, ⟨false, .base .int⟩], rs := [⟨false, .base .bool⟩], ex := true, fn := fun x => FnExactRedoEdits x.1 x.2 }
noncomputable def sUndoEdits (a : GHistory) : Option (GHistory × Bool) :=
  (sIsValidHistory a).bind fun r1 =>
  bif (!r1) then
    (sL40Copy a).bind fun r2 =>
    some (r2, false)
  else
    bif (a.pos == 0) then
      (sL40Copy a).bind fun r3 =>
      some (r3, false)
    else
      (idx a.nodes a.pos).bind fun e4 =>
      (idx a.nodes a.pos).bind fun e5 =>
      (sL40Move a e4.undo e5.parent).bind fun r6 =>
      some (r6.1, r6.2)
noncomputable def sUndoEditsFS : Fsp := { fid := 30, ps := [⟨true, .base .history⟩], rs := [⟨true, .base .history⟩, ⟨false, .base .bool⟩], ex := true, fn := fun x => sUndoEdits x }
noncomputable def iUndoEdits (a : GHistory) : Option (GHistory × Bool) :=
  (iIsValidHistory a).bind fun r1 =>
  bif (!r1) then
    (iCopyHistory a).bind fun r2 =>
    some (r2, false)
  else
    bif (a.pos == 0) then
      (iCopyHistory a).bind fun r3 =>
      some (r3, false)
    else
      (idx a.nodes a.pos).bind fun e4 =>
      (idx a.nodes a.pos).bind fun e5 =>
      (iStep a e4.undo e5.parent).bind fun r6 =>
      some (r6.1, r6.2)
noncomputable def iUndoEditsFS : Fsp := { fid := 31, ps := [⟨true, .base .history⟩], rs := [⟨true, .base .history⟩, ⟨false, .base .bool⟩], ex := true, fn := fun x => iUndoEdits x }
noncomputable def FnExactUndoEdits (a : GHistory) : Option (Bool) :=
  (szHistory a 1048576).bind fun r1 =>
  bif (decide (r1 < 0)) then
    some (true)
  else
  (toHistory a).bind fun r2 =>
  (sUndoEdits r2).bind fun r3 =>
  (toHistory a).bind fun r4 =>
  (iUndoEdits r4).bind fun r5 =>
  (eqHistory r5.1 r3.1).bind fun r6 =>
  bif (!r6) then
    some (false)
  else
  bif (!(r5.2 == r3.2)) then
    some (false)
  else
  (toHistory a).bind fun r7 =>
  (eqHistory r4 r7).bind fun r8 =>
  bif (!r8) then
    some (false)
  else
  (markHistory r4 1).bind fun r9 =>
  bif (decide (r9.2 < 0)) then
    some (false)
  else
  (eqHistory r5.1 r3.1).bind fun r10 =>
  bif (!r10) then
    some (false)
  else
  bif (!(r5.2 == r3.2)) then
    some (false)
  else
  (markHistory r5.1 1).bind fun r11 =>
  (heldHistory (GHistory.mk r11.1.notebook r11.1.nodes r5.1.pos) 1).bind fun r12 =>
  bif (decide (r12 < 0)) then
    some (false)
  else
  bif (r12 != r11.2) then
    some (false)
  else
  (toHistory a).bind fun r13 =>
  (iUndoEdits r13).bind fun r14 =>
  (eqHistory r14.1 r3.1).bind fun r15 =>
  bif (!r15) then
    some (false)
  else
  bif (!(r14.2 == r3.2)) then
    some (false)
  else
    (heldHistory (GHistory.mk r11.1.notebook r11.1.nodes r5.1.pos) 1).bind fun r16 =>
    bif (decide (r16 < 0)) then
      some (false)
    else
      bif (r16 != r11.2) then
        some (false)
      else
        some (true)
noncomputable def FnExactUndoEditsFS : Fsp := { fid := 5, ps := [⟨true, .base .history⟩], rs := [⟨false, .base .bool⟩], ex := true, fn := fun x => FnExactUndoEdits x }
noncomputable def sDoEdits (a : GHistory) (b : List GEdit) : Option (GHistory × Bool) :=
  (sL40Copy a).bind fun r1 =>
  (sInverseBatch a.notebook b).bind fun r2 =>
  (sApplyBatch a.notebook b).bind fun r3 =>
  (sIsValidHistory a).bind fun r4 =>
  bif (!r4) then
    some (r1, false)
  else
  bif ((a.nodes.length : Int) == 20) then
    some (r1, false)
  else
    bif (!r2.2) then
      some (r1, false)
    else
      bif (decide (r3.2 ≥ 0)) then
        some (r1, false)
      else
        (sL40Edits b).bind fun r5 =>
        (gd (r1.nodes.length + [GNode.mk a.pos r5 r2.1].length)).bind fun _ =>
        some (GHistory.mk r3.1 (r1.nodes ++ [GNode.mk a.pos r5 r2.1]) (w64 (((r1.nodes ++ [GNode.mk a.pos r5 r2.1]).length : Int) - 1)), true)
noncomputable def sDoEditsFS : Fsp := { fid := 32, ps := [⟨true, .base .history⟩, ⟨false, .list (.base .edit)⟩], rs := [⟨true, .base .history⟩, ⟨false, .base .bool⟩], ex := true, fn := fun x => sDoEdits x.1 x.2 }
noncomputable def iDoEdits (a : GHistory) (b : List GEdit) : Option (GHistory × Bool) :=
  (iIsValidHistory a).bind fun r1 =>
  bif (!r1) then
    (iCopyHistory a).bind fun r2 =>
    some (r2, false)
  else
  bif (decide ((a.nodes.length : Int) ≥ 20)) then
    (iCopyHistory a).bind fun r3 =>
    some (r3, false)
  else
    (iInverseBatch a.notebook b).bind fun r4 =>
    (iStep a b (a.nodes.length : Int)).bind fun r5 =>
    bif r5.2 then
      (iCopyEdits b).bind fun r6 =>
      (gd (r5.1.nodes.length + [GNode.mk a.pos r6 r4.1].length)).bind fun _ =>
      some (GHistory.mk r5.1.notebook (r5.1.nodes ++ [GNode.mk a.pos r6 r4.1]) r5.1.pos, r5.2)
    else
      some (r5.1, r5.2)
noncomputable def iDoEditsFS : Fsp := { fid := 33, ps := [⟨true, .base .history⟩, ⟨false, .list (.base .edit)⟩], rs := [⟨true, .base .history⟩, ⟨false, .base .bool⟩], ex := true, fn := fun x => iDoEdits x.1 x.2 }
noncomputable def FnExactDoEdits (a : GHistory) (b : List GEdit) : Option (Bool) :=
  (szHistory a 1048576).bind fun r1 =>
  bif (decide (r1 < 0)) then
    some (true)
  else
  (szEditS b r1).bind fun r2 =>
  bif (decide (r2 < 0)) then
    some (true)
  else
  (toHistory a).bind fun r3 =>
  (toEditS b).bind fun r4 =>
  (sDoEdits r3 r4).bind fun r5 =>
  (toHistory a).bind fun r6 =>
  (toEditS b).bind fun r7 =>
  (iDoEdits r6 r7).bind fun r8 =>
  (eqHistory r8.1 r5.1).bind fun r9 =>
  bif (!r9) then
    some (false)
  else
  bif (!(r8.2 == r5.2)) then
    some (false)
  else
  (toHistory a).bind fun r10 =>
  (eqHistory r6 r10).bind fun r11 =>
  bif (!r11) then
    some (false)
  else
  (toEditS b).bind fun r12 =>
  (eqEditS r7 r12).bind fun r13 =>
  bif (!r13) then
    some (false)
  else
  (markHistory r6 1).bind fun r14 =>
  (markEditS r7 r14.2).bind fun r15 =>
  bif (decide (r15.2 < 0)) then
    some (false)
  else
  (eqHistory r8.1 r5.1).bind fun r16 =>
  bif (!r16) then
    some (false)
  else
  bif (!(r8.2 == r5.2)) then
    some (false)
  else
  (markHistory r8.1 1).bind fun r17 =>
  (heldHistory (GHistory.mk r17.1.notebook r17.1.nodes r8.1.pos) 1).bind fun r18 =>
  bif (decide (r18 < 0)) then
    some (false)
  else
  bif (r18 != r17.2) then
    some (false)
  else
  (toHistory a).bind fun r19 =>
  (toEditS b).bind fun r20 =>
  (iDoEdits r19 r20).bind fun r21 =>
  (eqHistory r21.1 r5.1).bind fun r22 =>
  bif (!r22) then
    some (false)
  else
  bif (!(r21.2 == r5.2)) then
    some (false)
  else
    (heldHistory (GHistory.mk r17.1.notebook r17.1.nodes r8.1.pos) 1).bind fun r23 =>
    bif (decide (r23 < 0)) then
      some (false)
    else
      bif (r23 != r17.2) then
        some (false)
      else
        some (true)
noncomputable def FnExactDoEditsFS : Fsp := { fid := 6, ps := [⟨true, .base .history⟩, ⟨false, .list (.base .edit)⟩], rs := [⟨false, .base .bool⟩], ex := true, fn := fun x => FnExactDoEdits x.1 x.2 }
noncomputable def sPathTo (a : GHistory) (b : Int) : Option ((List Int)) :=
  (sIsValidHistory a).bind fun r1 =>
  bif (!r1) then
    some ([])
  else
  (sL1In b 0 (w64 ((a.nodes.length : Int) - 1))).bind fun r2 =>
  bif (!r2) then
    some ([])
  else
    loopD (fun (x3 : Int × (List GCell) × (List GNode) × Int × (List Int)) =>
      bif (decide (x3.1 ≥ 0)) then
        (gd ([x3.1].length + x3.2.2.2.2.length)).bind fun _ =>
        (idx x3.2.2.1 x3.1).bind fun e4 =>
        some (.inl (e4.parent, x3.2.1, x3.2.2.1, x3.2.2.2.1, [x3.1] ++ x3.2.2.2.2))
      else
        some (.inr (x3.2.2.2.2))
    ) (b, a.notebook.cells, a.nodes, a.pos, [])
noncomputable def sPathToFS : Fsp := { fid := 96, ps := [⟨true, .base .history⟩, ⟨false, .base .int⟩], rs := [⟨false, .list (.base .int)⟩], ex := true, fn := fun x => sPathTo x.1 x.2 }
noncomputable def sL1HasInt (a : List Int) (b : Int) : Option (Bool) :=
  loopD (fun (x1 : (List Int) × Int × Int) =>
    bif (decide (x1.2.2 < (x1.1.length : Int))) then
      (idx x1.1 x1.2.2).bind fun e2 =>
      bif (e2 == x1.2.1) then
        some (.inr (true))
      else
        some (.inl (x1.1, x1.2.1, w64 (x1.2.2 + 1)))
    else
      some (.inr (false))
  ) (a, b, 0)
noncomputable def sL1HasIntFS : Fsp := { fid := 97, ps := [⟨false, .list (.base .int)⟩, ⟨false, .base .int⟩], rs := [⟨false, .base .bool⟩], ex := true, fn := fun x => sL1HasInt x.1 x.2 }
noncomputable def sGoTo (a : GHistory) (b : Int) : Option (GHistory × Bool) :=
  (sPathTo a b).bind fun r1 =>
  bif ((r1.length : Int) == 0) then
    (sL40Copy a).bind fun r2 =>
    some (r2, false)
  else
  (sL40Copy a).bind fun r3 =>
  loopD (fun (x4 : (List GCell) × (List GNode) × Int × (List GCell) × (List GNode) × Int × (List Int) × (List GCell) × (List GNode) × Int) =>
    (sL1HasInt x4.2.2.2.2.2.2.1 x4.2.2.2.2.2.2.2.2.2).bind fun r5 =>
    bif (!r5) then
      (sUndoEdits (GHistory.mk (GNotebook.mk x4.2.2.2.2.2.2.2.1) x4.2.2.2.2.2.2.2.2.1 x4.2.2.2.2.2.2.2.2.2)).bind fun r6 =>
      bif (!r6.2) then
        (sL40Copy (GHistory.mk (GNotebook.mk x4.1) x4.2.1 x4.2.2.1)).bind fun r7 =>
        some (.inr (r7, false))
      else
        some (.inl (x4.1, x4.2.1, x4.2.2.1, x4.2.2.2.1, x4.2.2.2.2.1, x4.2.2.2.2.2.1, x4.2.2.2.2.2.2.1, r6.1.notebook.cells, r6.1.nodes, r6.1.pos))
    else
    (
      loopD (fun (x8 : (List GCell) × (List GNode) × Int × (List GCell) × (List GNode) × Int × (List Int) × (List GCell) × (List GNode) × Int × Int × Int) =>
        bif (decide (x8.2.2.2.2.2.2.2.2.2.2.2 < (x8.2.2.2.2.2.2.1.length : Int))) then
          (idx x8.2.2.2.2.2.2.1 x8.2.2.2.2.2.2.2.2.2.2.2).bind fun _ =>
          (x8.2.2.2.2.2.2.1[x8.2.2.2.2.2.2.2.2.2.2.2.toNat]?).bind fun e10 =>
          bif (decide (e10 ≤ x8.2.2.2.2.2.2.2.2.2.2.1)) then
            some (.inl (x8.1, x8.2.1, x8.2.2.1, x8.2.2.2.1, x8.2.2.2.2.1, x8.2.2.2.2.2.1, x8.2.2.2.2.2.2.1, x8.2.2.2.2.2.2.2.1, x8.2.2.2.2.2.2.2.2.1, x8.2.2.2.2.2.2.2.2.2.1, x8.2.2.2.2.2.2.2.2.2.2.1, w64 (x8.2.2.2.2.2.2.2.2.2.2.2 + 1)))
          else
            (idx x8.2.2.2.2.2.2.1 x8.2.2.2.2.2.2.2.2.2.2.2).bind fun _ =>
            (x8.2.2.2.2.2.2.1[x8.2.2.2.2.2.2.2.2.2.2.2.toNat]?).bind fun e12 =>
            (sRedoEdits (GHistory.mk (GNotebook.mk x8.2.2.2.2.2.2.2.1) x8.2.2.2.2.2.2.2.2.1 x8.2.2.2.2.2.2.2.2.2.1) e12).bind fun r13 =>
            bif (!r13.2) then
              (sL40Copy (GHistory.mk (GNotebook.mk x8.1) x8.2.1 x8.2.2.1)).bind fun r14 =>
              some (.inr (r14, false))
            else
              some (.inl (x8.1, x8.2.1, x8.2.2.1, x8.2.2.2.1, x8.2.2.2.2.1, x8.2.2.2.2.2.1, x8.2.2.2.2.2.2.1, r13.1.notebook.cells, r13.1.nodes, r13.1.pos, x8.2.2.2.2.2.2.2.2.2.2.1, w64 (x8.2.2.2.2.2.2.2.2.2.2.2 + 1)))
        else
          some (.inr (GHistory.mk (GNotebook.mk x8.2.2.2.2.2.2.2.1) x8.2.2.2.2.2.2.2.2.1 x8.2.2.2.2.2.2.2.2.2.1, true))
      ) (x4.1, x4.2.1, x4.2.2.1, x4.2.2.2.1, x4.2.2.2.2.1, x4.2.2.2.2.2.1, x4.2.2.2.2.2.2.1, x4.2.2.2.2.2.2.2.1, x4.2.2.2.2.2.2.2.2.1, x4.2.2.2.2.2.2.2.2.2, x4.2.2.2.2.2.2.2.2.2, 0)
    ).bind fun r => some (.inr r)
  ) (a.notebook.cells, a.nodes, a.pos, [], [], 0, r1, r3.notebook.cells, r3.nodes, r3.pos)
noncomputable def sGoToFS : Fsp := { fid := 34, ps := [⟨true, .base .history⟩, ⟨false, .base .int⟩], rs := [⟨true, .base .history⟩, ⟨false, .base .bool⟩], ex := true, fn := fun x => sGoTo x.1 x.2 }
noncomputable def iPathTo (a : GHistory) (b : Int) : Option ((List Int)) :=
  (iIsValidHistory a).bind fun r1 =>
  bif (!r1) then
    some ([])
  else
  (iWithin b 0 (w64 ((a.nodes.length : Int) - 1))).bind fun r2 =>
  bif (!r2) then
    some ([])
  else
    loopD (fun (x3 : Int × (List GCell) × (List GNode) × Int × (List Int)) =>
      bif (decide (x3.1 ≥ 0)) then
        (gd ([x3.1].length + x3.2.2.2.2.length)).bind fun _ =>
        (idx x3.2.2.1 x3.1).bind fun e4 =>
        some (.inl (e4.parent, x3.2.1, x3.2.2.1, x3.2.2.2.1, [x3.1] ++ x3.2.2.2.2))
      else
        some (.inr (x3.2.2.2.2))
    ) (b, a.notebook.cells, a.nodes, a.pos, [])
noncomputable def iPathToFS : Fsp := { fid := 98, ps := [⟨true, .base .history⟩, ⟨false, .base .int⟩], rs := [⟨false, .list (.base .int)⟩], ex := true, fn := fun x => iPathTo x.1 x.2 }
noncomputable def iHasInt (a : List Int) (b : Int) : Option (Bool) :=
  loopD (fun (x1 : Int × (List Int) × Int × Int) =>
    bif (decide (x1.2.2.2 < x1.2.2.1)) then
      (idx x1.2.1 x1.2.2.2).bind fun e2 =>
      bif (e2 == x1.1) then
        some (.inr (true))
      else
        some (.inl (x1.1, x1.2.1, x1.2.2.1, w64 (x1.2.2.2 + 1)))
    else
      some (.inr (false))
  ) (b, a, (a.length : Int), 0)
noncomputable def iHasIntFS : Fsp := { fid := 99, ps := [⟨false, .list (.base .int)⟩, ⟨false, .base .int⟩], rs := [⟨false, .base .bool⟩], ex := true, fn := fun x => iHasInt x.1 x.2 }
noncomputable def iGoTo (a : GHistory) (b : Int) : Option (GHistory × Bool) :=
  (iPathTo a b).bind fun r1 =>
  (iCopyHistory a).bind fun r2 =>
  bif ((r1.length : Int) == 0) then
    some (r2, false)
  else
  loopD (fun (x3 : (List GCell) × (List GNode) × Int × (List GCell) × (List GNode) × Int × (List Int) × (List GCell) × (List GNode) × Int) =>
    (iHasInt x3.2.2.2.2.2.2.1 x3.2.2.2.2.2.2.2.2.2).bind fun r4 =>
    bif (!r4) then
      (iUndoEdits (GHistory.mk (GNotebook.mk x3.2.2.2.2.2.2.2.1) x3.2.2.2.2.2.2.2.2.1 x3.2.2.2.2.2.2.2.2.2)).bind fun r5 =>
      bif (!r5.2) then
        (iCopyHistory (GHistory.mk (GNotebook.mk x3.1) x3.2.1 x3.2.2.1)).bind fun r6 =>
        some (.inr (r6, false))
      else
        some (.inl (x3.1, x3.2.1, x3.2.2.1, x3.2.2.2.1, x3.2.2.2.2.1, x3.2.2.2.2.2.1, x3.2.2.2.2.2.2.1, r5.1.notebook.cells, r5.1.nodes, r5.1.pos))
    else
    (
      loopD (fun (x7 : (List GCell) × (List GNode) × Int × (List GCell) × (List GNode) × Int × (List Int) × (List GCell) × (List GNode) × Int × (List Int) × Int × Int) =>
        bif (decide (x7.2.2.2.2.2.2.2.2.2.2.2.2 < x7.2.2.2.2.2.2.2.2.2.2.2.1)) then
          (idx x7.2.2.2.2.2.2.2.2.2.2.1 x7.2.2.2.2.2.2.2.2.2.2.2.2).bind fun e8 =>
          bif (x7.2.2.2.2.2.2.2.2.2.2.2.2 == 0) then
            some (.inl (x7.1, x7.2.1, x7.2.2.1, x7.2.2.2.1, x7.2.2.2.2.1, x7.2.2.2.2.2.1, x7.2.2.2.2.2.2.1, x7.2.2.2.2.2.2.2.1, x7.2.2.2.2.2.2.2.2.1, x7.2.2.2.2.2.2.2.2.2.1, x7.2.2.2.2.2.2.2.2.2.2.1, x7.2.2.2.2.2.2.2.2.2.2.2.1, w64 (x7.2.2.2.2.2.2.2.2.2.2.2.2 + 1)))
          else
          (idx x7.2.2.2.2.2.2.1 (w64 (x7.2.2.2.2.2.2.2.2.2.2.2.2 - 1))).bind fun e9 =>
          bif (e9 != x7.2.2.2.2.2.2.2.2.2.1) then
            some (.inl (x7.1, x7.2.1, x7.2.2.1, x7.2.2.2.1, x7.2.2.2.2.1, x7.2.2.2.2.2.1, x7.2.2.2.2.2.2.1, x7.2.2.2.2.2.2.2.1, x7.2.2.2.2.2.2.2.2.1, x7.2.2.2.2.2.2.2.2.2.1, x7.2.2.2.2.2.2.2.2.2.2.1, x7.2.2.2.2.2.2.2.2.2.2.2.1, w64 (x7.2.2.2.2.2.2.2.2.2.2.2.2 + 1)))
          else
            (iRedoEdits (GHistory.mk (GNotebook.mk x7.2.2.2.2.2.2.2.1) x7.2.2.2.2.2.2.2.2.1 x7.2.2.2.2.2.2.2.2.2.1) e8).bind fun r10 =>
            bif (!r10.2) then
              (iCopyHistory (GHistory.mk (GNotebook.mk x7.1) x7.2.1 x7.2.2.1)).bind fun r11 =>
              some (.inr (r11, false))
            else
              some (.inl (x7.1, x7.2.1, x7.2.2.1, x7.2.2.2.1, x7.2.2.2.2.1, x7.2.2.2.2.2.1, x7.2.2.2.2.2.2.1, r10.1.notebook.cells, r10.1.nodes, r10.1.pos, x7.2.2.2.2.2.2.2.2.2.2.1, x7.2.2.2.2.2.2.2.2.2.2.2.1, w64 (x7.2.2.2.2.2.2.2.2.2.2.2.2 + 1)))
        else
          some (.inr (GHistory.mk (GNotebook.mk x7.2.2.2.2.2.2.2.1) x7.2.2.2.2.2.2.2.2.1 x7.2.2.2.2.2.2.2.2.2.1, true))
      ) (x3.1, x3.2.1, x3.2.2.1, x3.2.2.2.1, x3.2.2.2.2.1, x3.2.2.2.2.2.1, x3.2.2.2.2.2.2.1, x3.2.2.2.2.2.2.2.1, x3.2.2.2.2.2.2.2.2.1, x3.2.2.2.2.2.2.2.2.2, x3.2.2.2.2.2.2.1, (x3.2.2.2.2.2.2.1.length : Int), 0)
    ).bind fun r => some (.inr r)
  ) (a.notebook.cells, a.nodes, a.pos, [], [], 0, r1, r2.notebook.cells, r2.nodes, r2.pos)
noncomputable def iGoToFS : Fsp := { fid := 35, ps := [⟨true, .base .history⟩, ⟨false, .base .int⟩], rs := [⟨true, .base .history⟩, ⟨false, .base .bool⟩], ex := true, fn := fun x => iGoTo x.1 x.2 }
noncomputable def FnExactGoTo (a : GHistory) (b : Int) : Option (Bool) :=
  (szHistory a 1048576).bind fun r1 =>
  bif (decide (r1 < 0)) then
    some (true)
  else
  (toHistory a).bind fun r2 =>
  (sGoTo r2 b).bind fun r3 =>
  (toHistory a).bind fun r4 =>
  (iGoTo r4 b).bind fun r5 =>
  (eqHistory r5.1 r3.1).bind fun r6 =>
  bif (!r6) then
    some (false)
  else
  bif (!(r5.2 == r3.2)) then
    some (false)
  else
  (toHistory a).bind fun r7 =>
  (eqHistory r4 r7).bind fun r8 =>
  bif (!r8) then
    some (false)
  else
  (markHistory r4 1).bind fun r9 =>
  bif (decide (r9.2 < 0)) then
    some (false)
  else
  (eqHistory r5.1 r3.1).bind fun r10 =>
  bif (!r10) then
    some (false)
  else
  bif (!(r5.2 == r3.2)) then
    some (false)
  else
  (markHistory r5.1 1).bind fun r11 =>
  (heldHistory (GHistory.mk r11.1.notebook r11.1.nodes r5.1.pos) 1).bind fun r12 =>
  bif (decide (r12 < 0)) then
    some (false)
  else
  bif (r12 != r11.2) then
    some (false)
  else
  (toHistory a).bind fun r13 =>
  (iGoTo r13 b).bind fun r14 =>
  (eqHistory r14.1 r3.1).bind fun r15 =>
  bif (!r15) then
    some (false)
  else
  bif (!(r14.2 == r3.2)) then
    some (false)
  else
    (heldHistory (GHistory.mk r11.1.notebook r11.1.nodes r5.1.pos) 1).bind fun r16 =>
    bif (decide (r16 < 0)) then
      some (false)
    else
      bif (r16 != r11.2) then
        some (false)
      else
        some (true)
noncomputable def FnExactGoToFS : Fsp := { fid := 7, ps := [⟨true, .base .history⟩, ⟨false, .base .int⟩], rs := [⟨false, .base .bool⟩], ex := true, fn := fun x => FnExactGoTo x.1 x.2 }
noncomputable def szIntS (a : List Int) (b : Int) : Option (Int) :=
  bif (decide ((w64 (b - (a.length : Int))) < 0)) then
    some ((-1))
  else
    some (w64 (b - (a.length : Int)))
noncomputable def szIntSFS : Fsp := { fid := 121, ps := [⟨false, .list (.base .int)⟩, ⟨false, .base .int⟩], rs := [⟨false, .base .int⟩], ex := true, fn := fun x => szIntS x.1 x.2 }
noncomputable def szStringS (a : List Str) (b : Int) : Option (Int) :=
  bif (decide ((w64 (b - (a.length : Int))) < 0)) then
    some ((-1))
  else
    loopD (fun (x1 : (List Str) × Int × Int) =>
      bif (decide (x1.2.2 < (x1.1.length : Int))) then
        (idx x1.1 x1.2.2).bind fun e2 =>
        bif (decide ((w64 (x1.2.1 - (e2.length : Int))) < 0)) then
          some (.inr ((-1)))
        else
          some (.inl (x1.1, w64 (x1.2.1 - (e2.length : Int)), w64 (x1.2.2 + 1)))
      else
        some (.inr (x1.2.1))
    ) (a, w64 (b - (a.length : Int)), 0)
noncomputable def szStringSFS : Fsp := { fid := 220, ps := [⟨false, .list (.base .str)⟩, ⟨false, .base .int⟩], rs := [⟨false, .base .int⟩], ex := true, fn := fun x => szStringS x.1 x.2 }
noncomputable def szOriginS (a : List GOrigin) (b : Int) : Option (Int) :=
  bif (decide ((w64 (b - (a.length : Int))) < 0)) then
    some ((-1))
  else
    some (w64 (b - (a.length : Int)))
noncomputable def szOriginSFS : Fsp := { fid := 240, ps := [⟨false, .list (.base .origin)⟩, ⟨false, .base .int⟩], rs := [⟨false, .base .int⟩], ex := true, fn := fun x => szOriginS x.1 x.2 }
noncomputable def szRow (a : GRow) (b : Int) : Option (Int) :=
  (szIntS a.cells b).bind fun r1 =>
  bif (decide (r1 < 0)) then
    some ((-1))
  else
    (szOriginS a.orig r1).bind fun r2 =>
    bif (decide (r2 < 0)) then
      some ((-1))
    else
      some (r2)
noncomputable def szRowFS : Fsp := { fid := 235, ps := [⟨true, .base .row⟩, ⟨false, .base .int⟩], rs := [⟨false, .base .int⟩], ex := true, fn := fun x => szRow x.1 x.2 }
noncomputable def szRowS (a : List GRow) (b : Int) : Option (Int) :=
  bif (decide ((w64 (b - (a.length : Int))) < 0)) then
    some ((-1))
  else
  loopD (fun (x1 : (List GRow) × Int × Int) =>
    bif (decide (x1.2.2 < (x1.1.length : Int))) then
      (idx x1.1 x1.2.2).bind fun e2 =>
      (szRow e2 x1.2.1).bind fun r3 =>
      bif (decide (r3 < 0)) then
        some (.inr ((-1)))
      else
        some (.inl (x1.1, r3, w64 (x1.2.2 + 1)))
    else
      some (.inr (x1.2.1))
  ) (a, w64 (b - (a.length : Int)), 0)
noncomputable def szRowSFS : Fsp := { fid := 221, ps := [⟨false, .list (.base .row)⟩, ⟨false, .base .int⟩], rs := [⟨false, .base .int⟩], ex := true, fn := fun x => szRowS x.1 x.2 }
noncomputable def szValueB (rszValue : GVal → Int → Option (Int)) (rszValueS : (List GVal) → Int → Option (Int)) (a : GVal) (b : Int) : Option (Int) :=
  bif (decide ((w64 (b - (a.text.length : Int))) < 0)) then
    some ((-1))
  else
  (rszValueS a.list (w64 (b - (a.text.length : Int)))).bind fun r1 =>
  bif (decide (r1 < 0)) then
    some ((-1))
  else
    (szStringS a.columns r1).bind fun r2 =>
    bif (decide (r2 < 0)) then
      some ((-1))
    else
      (szRowS a.rows r2).bind fun r3 =>
      bif (decide (r3 < 0)) then
        some ((-1))
      else
        some (r3)
noncomputable def szValueSB (rszValue : GVal → Int → Option (Int)) (rszValueS : (List GVal) → Int → Option (Int)) (a : List GVal) (b : Int) : Option (Int) :=
  bif (decide ((w64 (b - (a.length : Int))) < 0)) then
    some ((-1))
  else
  loopD (fun (x1 : (List GVal) × Int × Int) =>
    bif (decide (x1.2.2 < (x1.1.length : Int))) then
      (idx x1.1 x1.2.2).bind fun e2 =>
      (rszValue (reVal e2) x1.2.1).bind fun r3 =>
      bif (decide (r3 < 0)) then
        some (.inr ((-1)))
      else
        some (.inl (x1.1, r3, w64 (x1.2.2 + 1)))
    else
      some (.inr (x1.2.1))
  ) (a, w64 (b - (a.length : Int)), 0)
noncomputable def szValueG : Nat → (GVal → Int → Option (Int)) × ((List GVal) → Int → Option (Int))
  | 0 => (fun _ _ => none, fun _ _ => none)
  | n + 1 => (szValueB (szValueG n).1 (szValueG n).2, szValueSB (szValueG n).1 (szValueG n).2)
noncomputable def szValue (a : GVal) (b : Int) : Option (Int) := (szValueG (siz a + 1)).1 a b
noncomputable def szValueFS : Fsp := { fid := 194, ps := [⟨true, .base .val⟩, ⟨false, .base .int⟩], rs := [⟨false, .base .int⟩], ex := true, fn := fun x => szValue x.1 x.2 }
noncomputable def szValueFSN (n : Nat) : Fsp := { fid := 194, ps := [⟨true, .base .val⟩, ⟨false, .base .int⟩], rs := [⟨false, .base .int⟩], ex := true, fn := fun x => (szValueG n).1 x.1 x.2 }
noncomputable def szValueS (a : List GVal) (b : Int) : Option (Int) := (szValueG (siz a + 1)).2 a b
noncomputable def szValueSFS : Fsp := { fid := 219, ps := [⟨false, .list (.base .val)⟩, ⟨false, .base .int⟩], rs := [⟨false, .base .int⟩], ex := true, fn := fun x => szValueS x.1 x.2 }
noncomputable def szValueSFSN (n : Nat) : Fsp := { fid := 219, ps := [⟨false, .list (.base .val)⟩, ⟨false, .base .int⟩], rs := [⟨false, .base .int⟩], ex := true, fn := fun x => (szValueG n).2 x.1 x.2 }
noncomputable def szRead (a : GRead) (b : Int) : Option (Int) :=
  bif (decide ((w64 (b - (a.text.length : Int))) < 0)) then
    some ((-1))
  else
    (szValue (reVal a.result) (w64 (b - (a.text.length : Int)))).bind fun r1 =>
    bif (decide (r1 < 0)) then
      some ((-1))
    else
      some (r1)
noncomputable def szReadFS : Fsp := { fid := 170, ps := [⟨true, .base .read⟩, ⟨false, .base .int⟩], rs := [⟨false, .base .int⟩], ex := true, fn := fun x => szRead x.1 x.2 }
noncomputable def szReadS (a : List GRead) (b : Int) : Option (Int) :=
  bif (decide ((w64 (b - (a.length : Int))) < 0)) then
    some ((-1))
  else
  loopD (fun (x1 : (List GRead) × Int × Int) =>
    bif (decide (x1.2.2 < (x1.1.length : Int))) then
      (idx x1.1 x1.2.2).bind fun e2 =>
      (szRead (reRead e2) x1.2.1).bind fun r3 =>
      bif (decide (r3 < 0)) then
        some (.inr ((-1)))
      else
        some (.inl (x1.1, r3, w64 (x1.2.2 + 1)))
    else
      some (.inr (x1.2.1))
  ) (a, w64 (b - (a.length : Int)), 0)
noncomputable def szReadSFS : Fsp := { fid := 122, ps := [⟨false, .list (.base .read)⟩, ⟨false, .base .int⟩], rs := [⟨false, .base .int⟩], ex := true, fn := fun x => szReadS x.1 x.2 }
noncomputable def szOp (a : GOp) (b : Int) : Option (Int) :=
  (szIntS a.seen b).bind fun r1 =>
  bif (decide (r1 < 0)) then
    some ((-1))
  else
  (szEdit a.edit r1).bind fun r2 =>
  bif (decide (r2 < 0)) then
    some ((-1))
  else
  bif (decide ((w64 (r2 - (a.src.length : Int))) < 0)) then
    some ((-1))
  else
    bif (decide ((w64 ((w64 (r2 - (a.src.length : Int))) - (a.dst.length : Int))) < 0)) then
      some ((-1))
    else
      (szReadS a.reads (w64 ((w64 (r2 - (a.src.length : Int))) - (a.dst.length : Int)))).bind fun r3 =>
      bif (decide (r3 < 0)) then
        some ((-1))
      else
        some (r3)
noncomputable def szOpFS : Fsp := { fid := 55, ps := [⟨true, .base .op⟩, ⟨false, .base .int⟩], rs := [⟨false, .base .int⟩], ex := true, fn := fun x => szOp x.1 x.2 }
noncomputable def szOpS (a : List GOp) (b : Int) : Option (Int) :=
  bif (decide ((w64 (b - (a.length : Int))) < 0)) then
    some ((-1))
  else
  loopD (fun (x1 : (List GOp) × Int × Int) =>
    bif (decide (x1.2.2 < (x1.1.length : Int))) then
      (idx x1.1 x1.2.2).bind fun e2 =>
      (szOp e2 x1.2.1).bind fun r3 =>
      bif (decide (r3 < 0)) then
        some (.inr ((-1)))
      else
        some (.inl (x1.1, r3, w64 (x1.2.2 + 1)))
    else
      some (.inr (x1.2.1))
  ) (a, w64 (b - (a.length : Int)), 0)
noncomputable def szOpSFS : Fsp := { fid := 62, ps := [⟨false, .list (.base .op)⟩, ⟨false, .base .int⟩], rs := [⟨false, .base .int⟩], ex := true, fn := fun x => szOpS x.1 x.2 }
noncomputable def szReplica (a : GReplica) (b : Int) : Option (Int) :=
  (szOpS a.ops b).bind fun r1 =>
  bif (decide (r1 < 0)) then
    some ((-1))
  else
    some (r1)
noncomputable def szReplicaFS : Fsp := { fid := 36, ps := [⟨true, .base .replica⟩, ⟨false, .base .int⟩], rs := [⟨false, .base .int⟩], ex := true, fn := fun x => szReplica x.1 x.2 }
noncomputable def sCountBy (a : List GOp) (b : Int) : Option (Int) :=
  loopD (fun (x1 : (List GOp) × Int × Int × Int) =>
    bif (decide (x1.2.2.2 < (x1.1.length : Int))) then
      (idx x1.1 x1.2.2.2).bind fun e2 =>
      bif (e2.by_ == x1.2.1) then
        some (.inl (x1.1, x1.2.1, w64 (x1.2.2.1 + 1), w64 (x1.2.2.2 + 1)))
      else
        some (.inl (x1.1, x1.2.1, x1.2.2.1, w64 (x1.2.2.2 + 1)))
    else
      some (.inr (x1.2.2.1))
  ) (a, b, 0, 0)
noncomputable def sCountByFS : Fsp := { fid := 100, ps := [⟨false, .list (.base .op)⟩, ⟨false, .base .int⟩], rs := [⟨false, .base .int⟩], ex := true, fn := fun x => sCountBy x.1 x.2 }
noncomputable def sL3Row (a : GRow) : Option (GRow) :=
  (gd (0 + a.cells.length)).bind fun _ =>
  (gd (0 + a.orig.length)).bind fun _ =>
  some (GRow.mk ([] ++ a.cells) ([] ++ a.orig))
noncomputable def sL3RowFS : Fsp := { fid := 234, ps := [⟨true, .base .row⟩], rs := [⟨true, .base .row⟩], ex := true, fn := fun x => sL3Row x }
noncomputable def sL3CopyB (rsL3Copy : GVal → Option (GVal)) (a : GVal) : Option (GVal) :=
  (gd (0 + a.columns.length)).bind fun _ =>
  loopD (fun (x1 : Int × Int × Int × Str × (List GVal) × (List Str) × (List GRow) × Int × Int × Int × Str × (List GVal) × (List Str) × (List GRow) × Int × Int × Int × Str × (List GVal) × (List Str) × (List GRow) × Int) =>
    bif (decide (x1.2.2.2.2.2.2.2.2.2.2.2.2.2.2.2.2.2.2.2.2.2 < (x1.2.2.2.2.1.length : Int))) then
      (idx x1.2.2.2.2.1 x1.2.2.2.2.2.2.2.2.2.2.2.2.2.2.2.2.2.2.2.2.2).bind fun e2 =>
      (rsL3Copy (reVal e2)).bind fun r3 =>
      (gd (x1.2.2.2.2.2.2.2.2.2.2.2.2.2.2.2.2.2.2.1.length + [reVal r3].length)).bind fun _ =>
      some (.inl (x1.1, x1.2.1, x1.2.2.1, x1.2.2.2.1, x1.2.2.2.2.1, x1.2.2.2.2.2.1, x1.2.2.2.2.2.2.1, x1.2.2.2.2.2.2.2.1, x1.2.2.2.2.2.2.2.2.1, x1.2.2.2.2.2.2.2.2.2.1, x1.2.2.2.2.2.2.2.2.2.2.1, x1.2.2.2.2.2.2.2.2.2.2.2.1, x1.2.2.2.2.2.2.2.2.2.2.2.2.1, x1.2.2.2.2.2.2.2.2.2.2.2.2.2.1, x1.2.2.2.2.2.2.2.2.2.2.2.2.2.2.1, x1.2.2.2.2.2.2.2.2.2.2.2.2.2.2.2.1, x1.2.2.2.2.2.2.2.2.2.2.2.2.2.2.2.2.1, x1.2.2.2.2.2.2.2.2.2.2.2.2.2.2.2.2.2.1, x1.2.2.2.2.2.2.2.2.2.2.2.2.2.2.2.2.2.2.1 ++ [reVal r3], x1.2.2.2.2.2.2.2.2.2.2.2.2.2.2.2.2.2.2.2.1, x1.2.2.2.2.2.2.2.2.2.2.2.2.2.2.2.2.2.2.2.2.1, w64 (x1.2.2.2.2.2.2.2.2.2.2.2.2.2.2.2.2.2.2.2.2.2 + 1)))
    else
      (
        loopD (fun (x4 : Int × Int × Int × Str × (List GVal) × (List Str) × (List GRow) × Int × Int × Int × Str × (List GVal) × (List Str) × (List GRow) × Int × Int × Int × Str × (List GVal) × (List Str) × (List GRow) × Int) =>
          bif (decide (x4.2.2.2.2.2.2.2.2.2.2.2.2.2.2.2.2.2.2.2.2.2 < (x4.2.2.2.2.2.2.1.length : Int))) then
            (idx x4.2.2.2.2.2.2.1 x4.2.2.2.2.2.2.2.2.2.2.2.2.2.2.2.2.2.2.2.2.2).bind fun e5 =>
            (sL3Row e5).bind fun r6 =>
            (gd (x4.2.2.2.2.2.2.2.2.2.2.2.2.2.2.2.2.2.2.2.2.1.length + [r6].length)).bind fun _ =>
            some (.inl (x4.1, x4.2.1, x4.2.2.1, x4.2.2.2.1, x4.2.2.2.2.1, x4.2.2.2.2.2.1, x4.2.2.2.2.2.2.1, x4.2.2.2.2.2.2.2.1, x4.2.2.2.2.2.2.2.2.1, x4.2.2.2.2.2.2.2.2.2.1, x4.2.2.2.2.2.2.2.2.2.2.1, x4.2.2.2.2.2.2.2.2.2.2.2.1, x4.2.2.2.2.2.2.2.2.2.2.2.2.1, x4.2.2.2.2.2.2.2.2.2.2.2.2.2.1, x4.2.2.2.2.2.2.2.2.2.2.2.2.2.2.1, x4.2.2.2.2.2.2.2.2.2.2.2.2.2.2.2.1, x4.2.2.2.2.2.2.2.2.2.2.2.2.2.2.2.2.1, x4.2.2.2.2.2.2.2.2.2.2.2.2.2.2.2.2.2.1, x4.2.2.2.2.2.2.2.2.2.2.2.2.2.2.2.2.2.2.1, x4.2.2.2.2.2.2.2.2.2.2.2.2.2.2.2.2.2.2.2.1, x4.2.2.2.2.2.2.2.2.2.2.2.2.2.2.2.2.2.2.2.2.1 ++ [r6], w64 (x4.2.2.2.2.2.2.2.2.2.2.2.2.2.2.2.2.2.2.2.2.2 + 1)))
          else
            some (.inr (GVal.mk x4.2.2.2.2.2.2.2.2.2.2.2.2.2.2.1 x4.2.2.2.2.2.2.2.2.2.2.2.2.2.2.2.1 x4.2.2.2.2.2.2.2.2.2.2.2.2.2.2.2.2.1 x4.2.2.2.2.2.2.2.2.2.2.2.2.2.2.2.2.2.1 x4.2.2.2.2.2.2.2.2.2.2.2.2.2.2.2.2.2.2.1 x4.2.2.2.2.2.2.2.2.2.2.2.2.2.2.2.2.2.2.2.1 x4.2.2.2.2.2.2.2.2.2.2.2.2.2.2.2.2.2.2.2.2.1))
        ) (x1.1, x1.2.1, x1.2.2.1, x1.2.2.2.1, x1.2.2.2.2.1, x1.2.2.2.2.2.1, x1.2.2.2.2.2.2.1, x1.2.2.2.2.2.2.2.1, x1.2.2.2.2.2.2.2.2.1, x1.2.2.2.2.2.2.2.2.2.1, x1.2.2.2.2.2.2.2.2.2.2.1, x1.2.2.2.2.2.2.2.2.2.2.2.1, x1.2.2.2.2.2.2.2.2.2.2.2.2.1, x1.2.2.2.2.2.2.2.2.2.2.2.2.2.1, x1.2.2.2.2.2.2.2.2.2.2.2.2.2.2.1, x1.2.2.2.2.2.2.2.2.2.2.2.2.2.2.2.1, x1.2.2.2.2.2.2.2.2.2.2.2.2.2.2.2.2.1, x1.2.2.2.2.2.2.2.2.2.2.2.2.2.2.2.2.2.1, x1.2.2.2.2.2.2.2.2.2.2.2.2.2.2.2.2.2.2.1, x1.2.2.2.2.2.2.2.2.2.2.2.2.2.2.2.2.2.2.2.1, x1.2.2.2.2.2.2.2.2.2.2.2.2.2.2.2.2.2.2.2.2.1, 0)
      ).bind fun r => some (.inr r)
  ) (a.kind, a.n, a.step, a.text, a.list, a.columns, a.rows, 0, 0, 0, [], [], [], [], a.kind, a.n, a.step, a.text, [], [] ++ a.columns, [], 0)
noncomputable def sL3CopyG : Nat → (GVal → Option (GVal))
  | 0 => fun _ => none
  | n + 1 => sL3CopyB (sL3CopyG n)
noncomputable def sL3Copy (a : GVal) : Option (GVal) := (sL3CopyG (siz a + 1)) a
noncomputable def sL3CopyFS : Fsp := { fid := 214, ps := [⟨true, .base .val⟩], rs := [⟨true, .base .val⟩], ex := true, fn := fun x => sL3Copy x }
noncomputable def sL3CopyFSN (n : Nat) : Fsp := { fid := 214, ps := [⟨true, .base .val⟩], rs := [⟨true, .base .val⟩], ex := true, fn := fun x => (sL3CopyG n) x }
noncomputable def sL16Read (a : GRead) : Option (GRead) :=
  (sL3Copy (reVal a.result)).bind fun r1 =>
  some (GRead.mk a.kind a.n a.time a.text (reVal r1))
noncomputable def sL16ReadFS : Fsp := { fid := 188, ps := [⟨true, .base .read⟩], rs := [⟨true, .base .read⟩], ex := true, fn := fun x => sL16Read x }
noncomputable def sL16Reads (a : List GRead) : Option ((List GRead)) :=
  loopD (fun (x1 : (List GRead) × (List GRead) × Int) =>
    bif (decide (x1.2.2 < (x1.1.length : Int))) then
      (idx x1.1 x1.2.2).bind fun e2 =>
      (sL16Read (reRead e2)).bind fun r3 =>
      (gd (x1.2.1.length + [reRead r3].length)).bind fun _ =>
      some (.inl (x1.1, x1.2.1 ++ [reRead r3], w64 (x1.2.2 + 1)))
    else
      some (.inr (x1.2.1))
  ) (a, [], 0)
noncomputable def sL16ReadsFS : Fsp := { fid := 156, ps := [⟨false, .list (.base .read)⟩], rs := [⟨false, .list (.base .read)⟩], ex := true, fn := fun x => sL16Reads x }
noncomputable def sL41Copy (a : GOp) : Option (GOp) :=
  (gd (0 + a.seen.length)).bind fun _ =>
  (sL16Reads a.reads).bind fun r1 =>
  some (GOp.mk a.time a.by_ a.kind ([] ++ a.seen) a.edit a.src a.dst a.cell a.version r1)
noncomputable def sL41CopyFS : Fsp := { fid := 101, ps := [⟨true, .base .op⟩], rs := [⟨true, .base .op⟩], ex := true, fn := fun x => sL41Copy x }
noncomputable def sMissingOps (a : GReplica) (b : List Int) : Option ((List GOp)) :=
  loopD (fun (x1 : (List Int) × Int × (List GOp) × (List GOp) × Int) =>
    bif (decide (x1.2.2.2.2 < (x1.2.2.1.length : Int))) then
      (idx x1.2.2.1 x1.2.2.2.2).bind fun e2 =>
      (sL1In e2.by_ 0 (w64 ((x1.1.length : Int) - 1))).bind fun r3 =>
      bif (!r3) then
        (idx x1.2.2.1 x1.2.2.2.2).bind fun e4 =>
        (sL41Copy e4).bind fun r5 =>
        (gd (x1.2.2.2.1.length + [r5].length)).bind fun _ =>
        some (.inl (x1.1, x1.2.1, x1.2.2.1, x1.2.2.2.1 ++ [r5], w64 (x1.2.2.2.2 + 1)))
      else
      (eff.cutL x1.2.2.1 none (some x1.2.2.2.2)).bind fun r6 =>
      (sCountBy r6 e2.by_).bind fun r7 =>
      (idx x1.1 e2.by_).bind fun e8 =>
      bif (decide (r7 ≥ e8)) then
        (idx x1.2.2.1 x1.2.2.2.2).bind fun e9 =>
        (sL41Copy e9).bind fun r10 =>
        (gd (x1.2.2.2.1.length + [r10].length)).bind fun _ =>
        some (.inl (x1.1, x1.2.1, x1.2.2.1, x1.2.2.2.1 ++ [r10], w64 (x1.2.2.2.2 + 1)))
      else
        some (.inl (x1.1, x1.2.1, x1.2.2.1, x1.2.2.2.1, w64 (x1.2.2.2.2 + 1)))
    else
      some (.inr (x1.2.2.2.1))
  ) (b, a.id, a.ops, [], 0)
noncomputable def sMissingOpsFS : Fsp := { fid := 37, ps := [⟨true, .base .replica⟩, ⟨false, .list (.base .int)⟩], rs := [⟨false, .list (.base .op)⟩], ex := true, fn := fun x => sMissingOps x.1 x.2 }
noncomputable def toIntS (a : List Int) : Option ((List Int)) :=
  (mk (a.length : Int)).bind fun m1 =>
  loopD (fun (x2 : (List Int) × (List Int) × Int) =>
    bif (decide (x2.2.2 < (x2.1.length : Int))) then
      (idx x2.1 x2.2.2).bind fun e3 =>
      (idx x2.2.1 x2.2.2).bind fun _ =>
      (x2.2.1[x2.2.2.toNat]?).bind fun e5 =>
      some (.inl (x2.1, x2.2.1.set x2.2.2.toNat e3, w64 (x2.2.2 + 1)))
    else
      some (.inr (x2.2.1))
  ) (a, List.replicate m1 0, 0)
noncomputable def toIntSFS : Fsp := { fid := 39, ps := [⟨false, .list (.base .int)⟩], rs := [⟨false, .list (.base .int)⟩], ex := true, fn := fun x => toIntS x }
noncomputable def toStringS (a : List Str) : Option ((List Str)) :=
  (mk (a.length : Int)).bind fun m1 =>
  loopD (fun (x2 : (List Str) × (List Str) × Int) =>
    bif (decide (x2.2.2 < (x2.1.length : Int))) then
      (idx x2.1 x2.2.2).bind fun e3 =>
      (idx x2.2.1 x2.2.2).bind fun _ =>
      (x2.2.1[x2.2.2.toNat]?).bind fun e5 =>
      some (.inl (x2.1, x2.2.1.set x2.2.2.toNat e3, w64 (x2.2.2 + 1)))
    else
      some (.inr (x2.2.1))
  ) (a, List.replicate m1 [], 0)
noncomputable def toStringSFS : Fsp := { fid := 224, ps := [⟨false, .list (.base .str)⟩], rs := [⟨false, .list (.base .str)⟩], ex := true, fn := fun x => toStringS x }
noncomputable def toOrigin (a : GOrigin) : Option (GOrigin) :=
  some (a)
noncomputable def toOriginFS : Fsp := { fid := 243, ps := [⟨true, .base .origin⟩], rs := [⟨true, .base .origin⟩], ex := true, fn := fun x => toOrigin x }
noncomputable def toOriginS (a : List GOrigin) : Option ((List GOrigin)) :=
  (mk (a.length : Int)).bind fun m1 =>
  loopD (fun (x2 : (List GOrigin) × (List GOrigin) × Int) =>
    bif (decide (x2.2.2 < (x2.1.length : Int))) then
      (idx x2.1 x2.2.2).bind fun e3 =>
      (toOrigin e3).bind fun r4 =>
      (idx x2.2.1 x2.2.2).bind fun _ =>
      (x2.2.1[x2.2.2.toNat]?).bind fun e6 =>
      some (.inl (x2.1, x2.2.1.set x2.2.2.toNat r4, w64 (x2.2.2 + 1)))
    else
      some (.inr (x2.2.1))
  ) (a, List.replicate m1 (GOrigin.mk 0 0), 0)
noncomputable def toOriginSFS : Fsp := { fid := 241, ps := [⟨false, .list (.base .origin)⟩], rs := [⟨false, .list (.base .origin)⟩], ex := true, fn := fun x => toOriginS x }
noncomputable def toRow (a : GRow) : Option (GRow) :=
  (toIntS a.cells).bind fun r1 =>
  (toOriginS a.orig).bind fun r2 =>
  some (GRow.mk r1 r2)
noncomputable def toRowFS : Fsp := { fid := 236, ps := [⟨true, .base .row⟩], rs := [⟨true, .base .row⟩], ex := true, fn := fun x => toRow x }
noncomputable def toRowS (a : List GRow) : Option ((List GRow)) :=
  (mk (a.length : Int)).bind fun m1 =>
  loopD (fun (x2 : (List GRow) × (List GRow) × Int) =>
    bif (decide (x2.2.2 < (x2.1.length : Int))) then
      (idx x2.1 x2.2.2).bind fun e3 =>
      (toRow e3).bind fun r4 =>
      (idx x2.2.1 x2.2.2).bind fun _ =>
      (x2.2.1[x2.2.2.toNat]?).bind fun e6 =>
      some (.inl (x2.1, x2.2.1.set x2.2.2.toNat r4, w64 (x2.2.2 + 1)))
    else
      some (.inr (x2.2.1))
  ) (a, List.replicate m1 (GRow.mk [] []), 0)
noncomputable def toRowSFS : Fsp := { fid := 225, ps := [⟨false, .list (.base .row)⟩], rs := [⟨false, .list (.base .row)⟩], ex := true, fn := fun x => toRowS x }
noncomputable def toValueB (rtoValue : GVal → Option (GVal)) (rtoValueS : (List GVal) → Option ((List GVal))) (a : GVal) : Option (GVal) :=
  (rtoValueS a.list).bind fun r1 =>
  (toStringS a.columns).bind fun r2 =>
  (toRowS a.rows).bind fun r3 =>
  some (GVal.mk a.kind a.n a.step a.text r1 r2 r3)
noncomputable def toValueSB (rtoValue : GVal → Option (GVal)) (rtoValueS : (List GVal) → Option ((List GVal))) (a : List GVal) : Option ((List GVal)) :=
  (mk (a.length : Int)).bind fun m1 =>
  loopD (fun (x2 : (List GVal) × (List GVal) × Int) =>
    bif (decide (x2.2.2 < (x2.1.length : Int))) then
      (idx x2.1 x2.2.2).bind fun e3 =>
      (rtoValue (reVal e3)).bind fun r4 =>
      (idx x2.2.1 x2.2.2).bind fun _ =>
      (x2.2.1[x2.2.2.toNat]?).bind fun e6 =>
      some (.inl (x2.1, x2.2.1.set x2.2.2.toNat (reVal r4), w64 (x2.2.2 + 1)))
    else
      some (.inr (x2.2.1))
  ) (a, List.replicate m1 (GVal.mk 0 0 0 [] [] [] []), 0)
noncomputable def toValueG : Nat → (GVal → Option (GVal)) × ((List GVal) → Option ((List GVal)))
  | 0 => (fun _ => none, fun _ => none)
  | n + 1 => (toValueB (toValueG n).1 (toValueG n).2, toValueSB (toValueG n).1 (toValueG n).2)
noncomputable def toValue (a : GVal) : Option (GVal) := (toValueG (siz a + 1)).1 a
noncomputable def toValueFS : Fsp := { fid := 196, ps := [⟨true, .base .val⟩], rs := [⟨true, .base .val⟩], ex := true, fn := fun x => toValue x }
noncomputable def toValueFSN (n : Nat) : Fsp := { fid := 196, ps := [⟨true, .base .val⟩], rs := [⟨true, .base .val⟩], ex := true, fn := fun x => (toValueG n).1 x }
noncomputable def toValueS (a : List GVal) : Option ((List GVal)) := (toValueG (siz a + 1)).2 a
noncomputable def toValueSFS : Fsp := { fid := 223, ps := [⟨false, .list (.base .val)⟩], rs := [⟨false, .list (.base .val)⟩], ex := true, fn := fun x => toValueS x }
noncomputable def toValueSFSN (n : Nat) : Fsp := { fid := 223, ps := [⟨false, .list (.base .val)⟩], rs := [⟨false, .list (.base .val)⟩], ex := true, fn := fun x => (toValueG n).2 x }
noncomputable def toRead (a : GRead) : Option (GRead) :=
  (toValue (reVal a.result)).bind fun r1 =>
  some (GRead.mk a.kind a.n a.time a.text (reVal r1))
noncomputable def toReadFS : Fsp := { fid := 174, ps := [⟨true, .base .read⟩], rs := [⟨true, .base .read⟩], ex := true, fn := fun x => toRead x }
noncomputable def toReadS (a : List GRead) : Option ((List GRead)) :=
  (mk (a.length : Int)).bind fun m1 =>
  loopD (fun (x2 : (List GRead) × (List GRead) × Int) =>
    bif (decide (x2.2.2 < (x2.1.length : Int))) then
      (idx x2.1 x2.2.2).bind fun e3 =>
      (toRead (reRead e3)).bind fun r4 =>
      (idx x2.2.1 x2.2.2).bind fun _ =>
      (x2.2.1[x2.2.2.toNat]?).bind fun e6 =>
      some (.inl (x2.1, x2.2.1.set x2.2.2.toNat (reRead r4), w64 (x2.2.2 + 1)))
    else
      some (.inr (x2.2.1))
  ) (a, List.replicate m1 (GRead.mk 0 0 0 [] (GVal.mk 0 0 0 [] [] [] [])), 0)
noncomputable def toReadSFS : Fsp := { fid := 127, ps := [⟨false, .list (.base .read)⟩], rs := [⟨false, .list (.base .read)⟩], ex := true, fn := fun x => toReadS x }
noncomputable def toOp (a : GOp) : Option (GOp) :=
  (toIntS a.seen).bind fun r1 =>
  (toEdit a.edit).bind fun r2 =>
  (toReadS a.reads).bind fun r3 =>
  some (GOp.mk a.time a.by_ a.kind r1 r2 a.src a.dst a.cell a.version r3)
noncomputable def toOpFS : Fsp := { fid := 57, ps := [⟨true, .base .op⟩], rs := [⟨true, .base .op⟩], ex := true, fn := fun x => toOp x }
noncomputable def toOpS (a : List GOp) : Option ((List GOp)) :=
  (mk (a.length : Int)).bind fun m1 =>
  loopD (fun (x2 : (List GOp) × (List GOp) × Int) =>
    bif (decide (x2.2.2 < (x2.1.length : Int))) then
      (idx x2.1 x2.2.2).bind fun e3 =>
      (toOp e3).bind fun r4 =>
      (idx x2.2.1 x2.2.2).bind fun _ =>
      (x2.2.1[x2.2.2.toNat]?).bind fun e6 =>
      some (.inl (x2.1, x2.2.1.set x2.2.2.toNat r4, w64 (x2.2.2 + 1)))
    else
      some (.inr (x2.2.1))
  ) (a, List.replicate m1 (GOp.mk 0 0 0 [] (GEdit.mk 0 0 (GCell.mk 0 0 0 [] [] 0)) [] [] 0 0 []), 0)
noncomputable def toOpSFS : Fsp := { fid := 64, ps := [⟨false, .list (.base .op)⟩], rs := [⟨false, .list (.base .op)⟩], ex := true, fn := fun x => toOpS x }
noncomputable def toReplica (a : GReplica) : Option (GReplica) :=
  (toOpS a.ops).bind fun r1 =>
  some (GReplica.mk a.id r1)
noncomputable def toReplicaFS : Fsp := { fid := 38, ps := [⟨true, .base .replica⟩], rs := [⟨true, .base .replica⟩], ex := true, fn := fun x => toReplica x }
noncomputable def iCountBy (a : List GOp) (b : Int) : Option (Int) :=
  loopD (fun (x1 : Int × Int × (List GOp) × Int × Int) =>
    bif (decide (x1.2.2.2.2 < x1.2.2.2.1)) then
      (idx x1.2.2.1 x1.2.2.2.2).bind fun e2 =>
      bif (e2.by_ == x1.1) then
        some (.inl (x1.1, w64 (x1.2.1 + 1), x1.2.2.1, x1.2.2.2.1, w64 (x1.2.2.2.2 + 1)))
      else
        some (.inl (x1.1, x1.2.1, x1.2.2.1, x1.2.2.2.1, w64 (x1.2.2.2.2 + 1)))
    else
      some (.inr (x1.2.1))
  ) (b, 0, a, (a.length : Int), 0)
noncomputable def iCountByFS : Fsp := { fid := 102, ps := [⟨false, .list (.base .op)⟩, ⟨false, .base .int⟩], rs := [⟨false, .base .int⟩], ex := true, fn := fun x => iCountBy x.1 x.2 }
noncomputable def iCopyRow (a : GRow) : Option (GRow) :=
  (gd (0 + a.cells.length)).bind fun _ =>
  (gd (0 + a.orig.length)).bind fun _ =>
  some (GRow.mk ([] ++ a.cells) ([] ++ a.orig))
noncomputable def iCopyRowFS : Fsp := { fid := 216, ps := [⟨true, .base .row⟩], rs := [⟨true, .base .row⟩], ex := true, fn := fun x => iCopyRow x }
noncomputable def iCopyValueB (riCopyValue : GVal → Option (GVal)) (riCopyValues : (List GVal) → Option ((List GVal))) (a : GVal) : Option (GVal) :=
  (riCopyValues a.list).bind fun r1 =>
  (gd (0 + a.columns.length)).bind fun _ =>
  loopD (fun (x2 : Int × Int × Int × Str × (List GVal) × (List Str) × (List GRow) × Int × Int × Int × Str × (List GVal) × (List Str) × (List GRow) × (List GRow) × Int × Int) =>
    bif (decide (x2.2.2.2.2.2.2.2.2.2.2.2.2.2.2.2.2 < x2.2.2.2.2.2.2.2.2.2.2.2.2.2.2.2.1)) then
      (idx x2.2.2.2.2.2.2.2.2.2.2.2.2.2.2.1 x2.2.2.2.2.2.2.2.2.2.2.2.2.2.2.2.2).bind fun e3 =>
      (iCopyRow e3).bind fun r4 =>
      (gd (x2.2.2.2.2.2.2.2.2.2.2.2.2.2.1.length + [r4].length)).bind fun _ =>
      some (.inl (x2.1, x2.2.1, x2.2.2.1, x2.2.2.2.1, x2.2.2.2.2.1, x2.2.2.2.2.2.1, x2.2.2.2.2.2.2.1, x2.2.2.2.2.2.2.2.1, x2.2.2.2.2.2.2.2.2.1, x2.2.2.2.2.2.2.2.2.2.1, x2.2.2.2.2.2.2.2.2.2.2.1, x2.2.2.2.2.2.2.2.2.2.2.2.1, x2.2.2.2.2.2.2.2.2.2.2.2.2.1, x2.2.2.2.2.2.2.2.2.2.2.2.2.2.1 ++ [r4], x2.2.2.2.2.2.2.2.2.2.2.2.2.2.2.1, x2.2.2.2.2.2.2.2.2.2.2.2.2.2.2.2.1, w64 (x2.2.2.2.2.2.2.2.2.2.2.2.2.2.2.2.2 + 1)))
    else
      some (.inr (GVal.mk x2.2.2.2.2.2.2.2.1 x2.2.2.2.2.2.2.2.2.1 x2.2.2.2.2.2.2.2.2.2.1 x2.2.2.2.2.2.2.2.2.2.2.1 x2.2.2.2.2.2.2.2.2.2.2.2.1 x2.2.2.2.2.2.2.2.2.2.2.2.2.1 x2.2.2.2.2.2.2.2.2.2.2.2.2.2.1))
  ) (0, 0, 0, [], [], [], [], a.kind, a.n, a.step, a.text, r1, [] ++ a.columns, [], a.rows, (a.rows.length : Int), 0)
noncomputable def iCopyValuesB (riCopyValue : GVal → Option (GVal)) (riCopyValues : (List GVal) → Option ((List GVal))) (a : List GVal) : Option ((List GVal)) :=
  loopD (fun (x1 : (List GVal) × (List GVal) × Int × Int) =>
    bif (decide (x1.2.2.2 < x1.2.2.1)) then
      (idx x1.2.1 x1.2.2.2).bind fun e2 =>
      (riCopyValue (reVal e2)).bind fun r3 =>
      (gd (x1.1.length + [reVal r3].length)).bind fun _ =>
      some (.inl (x1.1 ++ [reVal r3], x1.2.1, x1.2.2.1, w64 (x1.2.2.2 + 1)))
    else
      some (.inr (x1.1))
  ) ([], a, (a.length : Int), 0)
noncomputable def iCopyValueG : Nat → (GVal → Option (GVal)) × ((List GVal) → Option ((List GVal)))
  | 0 => (fun _ => none, fun _ => none)
  | n + 1 => (iCopyValueB (iCopyValueG n).1 (iCopyValueG n).2, iCopyValuesB (iCopyValueG n).1 (iCopyValueG n).2)
noncomputable def iCopyValue (a : GVal) : Option (GVal) := (iCopyValueG (siz a + 1)).1 a
noncomputable def iCopyValueFS : Fsp := { fid := 189, ps := [⟨true, .base .val⟩], rs := [⟨true, .base .val⟩], ex := true, fn := fun x => iCopyValue x }
noncomputable def iCopyValueFSN (n : Nat) : Fsp := { fid := 189, ps := [⟨true, .base .val⟩], rs := [⟨true, .base .val⟩], ex := true, fn := fun x => (iCopyValueG n).1 x }
noncomputable def iCopyValues (a : List GVal) : Option ((List GVal)) := (iCopyValueG (siz a + 1)).2 a
noncomputable def iCopyValuesFS : Fsp := { fid := 215, ps := [⟨false, .list (.base .val)⟩], rs := [⟨false, .list (.base .val)⟩], ex := true, fn := fun x => iCopyValues x }
noncomputable def iCopyValuesFSN (n : Nat) : Fsp := { fid := 215, ps := [⟨false, .list (.base .val)⟩], rs := [⟨false, .list (.base .val)⟩], ex := true, fn := fun x => (iCopyValueG n).2 x }
noncomputable def iCopyReads (a : List GRead) : Option ((List GRead)) :=
  loopD (fun (x1 : (List GRead) × (List GRead) × Int × Int) =>
    bif (decide (x1.2.2.2 < x1.2.2.1)) then
      (idx x1.2.1 x1.2.2.2).bind fun e2 =>
      (iCopyValue (reVal e2.result)).bind fun r3 =>
      (gd (x1.1.length + [GRead.mk e2.kind e2.n e2.time e2.text (reVal r3)].length)).bind fun _ =>
      some (.inl (x1.1 ++ [GRead.mk e2.kind e2.n e2.time e2.text (reVal r3)], x1.2.1, x1.2.2.1, w64 (x1.2.2.2 + 1)))
    else
      some (.inr (x1.1))
  ) ([], a, (a.length : Int), 0)
noncomputable def iCopyReadsFS : Fsp := { fid := 157, ps := [⟨false, .list (.base .read)⟩], rs := [⟨false, .list (.base .read)⟩], ex := true, fn := fun x => iCopyReads x }
noncomputable def iCopyOp (a : GOp) : Option (GOp) :=
  (gd (0 + a.seen.length)).bind fun _ =>
  (iCopyReads a.reads).bind fun r1 =>
  some (GOp.mk a.time a.by_ a.kind ([] ++ a.seen) a.edit a.src a.dst a.cell a.version r1)
noncomputable def iCopyOpFS : Fsp := { fid := 103, ps := [⟨true, .base .op⟩], rs := [⟨true, .base .op⟩], ex := true, fn := fun x => iCopyOp x }
noncomputable def iMissingOps (a : GReplica) (b : List Int) : Option ((List GOp)) :=
  loopD (fun (x1 : (List Int) × Int × (List GOp) × (List GOp) × (List GOp) × Int × Int) =>
    bif (decide (x1.2.2.2.2.2.2 < x1.2.2.2.2.2.1)) then
      (idx x1.2.2.2.2.1 x1.2.2.2.2.2.2).bind fun e2 =>
      bif (decide (e2.by_ ≥ 0)) then
        bif (decide (e2.by_ < (x1.1.length : Int))) then
          (eff.cutL x1.2.2.1 none (some x1.2.2.2.2.2.2)).bind fun r3 =>
          (iCountBy r3 e2.by_).bind fun r4 =>
          (idx x1.1 e2.by_).bind fun e5 =>
          bif (!(decide (r4 < e5))) then
            (iCopyOp e2).bind fun r6 =>
            (gd (x1.2.2.2.1.length + [r6].length)).bind fun _ =>
            some (.inl (x1.1, x1.2.1, x1.2.2.1, x1.2.2.2.1 ++ [r6], x1.2.2.2.2.1, x1.2.2.2.2.2.1, w64 (x1.2.2.2.2.2.2 + 1)))
          else
            some (.inl (x1.1, x1.2.1, x1.2.2.1, x1.2.2.2.1, x1.2.2.2.2.1, x1.2.2.2.2.2.1, w64 (x1.2.2.2.2.2.2 + 1)))
        else
          (iCopyOp e2).bind fun r7 =>
          (gd (x1.2.2.2.1.length + [r7].length)).bind fun _ =>
          some (.inl (x1.1, x1.2.1, x1.2.2.1, x1.2.2.2.1 ++ [r7], x1.2.2.2.2.1, x1.2.2.2.2.2.1, w64 (x1.2.2.2.2.2.2 + 1)))
      else
        (iCopyOp e2).bind fun r8 =>
        (gd (x1.2.2.2.1.length + [r8].length)).bind fun _ =>
        some (.inl (x1.1, x1.2.1, x1.2.2.1, x1.2.2.2.1 ++ [r8], x1.2.2.2.2.1, x1.2.2.2.2.2.1, w64 (x1.2.2.2.2.2.2 + 1)))
    else
      some (.inr (x1.2.2.2.1))
  ) (b, a.id, a.ops, [], a.ops, (a.ops.length : Int), 0)
noncomputable def iMissingOpsFS : Fsp := { fid := 40, ps := [⟨true, .base .replica⟩, ⟨false, .list (.base .int)⟩], rs := [⟨false, .list (.base .op)⟩], ex := true, fn := fun x => iMissingOps x.1 x.2 }
noncomputable def eqIntS (a : List Int) (b : List Int) : Option (Bool) :=
  bif ((a.length : Int) != (b.length : Int)) then
    some (false)
  else
  loopD (fun (x1 : (List Int) × (List Int) × Int) =>
    bif (decide (x1.2.2 < (x1.1.length : Int))) then
      (idx x1.1 x1.2.2).bind fun e2 =>
      (idx x1.2.1 x1.2.2).bind fun e3 =>
      bif (e2 != e3) then
        some (.inr (false))
      else
        some (.inl (x1.1, x1.2.1, w64 (x1.2.2 + 1)))
    else
      some (.inr (true))
  ) (a, b, 0)
noncomputable def eqIntSFS : Fsp := { fid := 43, ps := [⟨false, .list (.base .int)⟩, ⟨false, .list (.base .int)⟩], rs := [⟨false, .base .bool⟩], ex := true, fn := fun x => eqIntS x.1 x.2 }
noncomputable def eqStringS (a : List Str) (b : List Str) : Option (Bool) :=
  bif ((a.length : Int) != (b.length : Int)) then
    some (false)
  else
  loopD (fun (x1 : (List Str) × (List Str) × Int) =>
    bif (decide (x1.2.2 < (x1.1.length : Int))) then
      (idx x1.1 x1.2.2).bind fun e2 =>
      (idx x1.2.1 x1.2.2).bind fun e3 =>
      bif (!(e2 == e3)) then
        some (.inr (false))
      else
        some (.inl (x1.1, x1.2.1, w64 (x1.2.2 + 1)))
    else
      some (.inr (true))
  ) (a, b, 0)
noncomputable def eqStringSFS : Fsp := { fid := 227, ps := [⟨false, .list (.base .str)⟩, ⟨false, .list (.base .str)⟩], rs := [⟨false, .base .bool⟩], ex := true, fn := fun x => eqStringS x.1 x.2 }
noncomputable def eqOrigin (a : GOrigin) (b : GOrigin) : Option (Bool) :=
  bif (a.cell != b.cell) then
    some (false)
  else
    bif (a.row != b.row) then
      some (false)
    else
      some (true)
noncomputable def eqOriginFS : Fsp := { fid := 244, ps := [⟨true, .base .origin⟩, ⟨true, .base .origin⟩], rs := [⟨false, .base .bool⟩], ex := true, fn := fun x => eqOrigin x.1 x.2 }
noncomputable def eqOriginS (a : List GOrigin) (b : List GOrigin) : Option (Bool) :=
  bif ((a.length : Int) != (b.length : Int)) then
    some (false)
  else
  loopD (fun (x1 : (List GOrigin) × (List GOrigin) × Int) =>
    bif (decide (x1.2.2 < (x1.1.length : Int))) then
      (idx x1.1 x1.2.2).bind fun e2 =>
      (idx x1.2.1 x1.2.2).bind fun e3 =>
      (eqOrigin e2 e3).bind fun r4 =>
      bif (!r4) then
        some (.inr (false))
      else
        some (.inl (x1.1, x1.2.1, w64 (x1.2.2 + 1)))
    else
      some (.inr (true))
  ) (a, b, 0)
noncomputable def eqOriginSFS : Fsp := { fid := 242, ps := [⟨false, .list (.base .origin)⟩, ⟨false, .list (.base .origin)⟩], rs := [⟨false, .base .bool⟩], ex := true, fn := fun x => eqOriginS x.1 x.2 }
noncomputable def eqRow (a : GRow) (b : GRow) : Option (Bool) :=
  (eqIntS a.cells b.cells).bind fun r1 =>
  bif (!r1) then
    some (false)
  else
    (eqOriginS a.orig b.orig).bind fun r2 =>
    bif (!r2) then
      some (false)
    else
      some (true)
noncomputable def eqRowFS : Fsp := { fid := 237, ps := [⟨true, .base .row⟩, ⟨true, .base .row⟩], rs := [⟨false, .base .bool⟩], ex := true, fn := fun x => eqRow x.1 x.2 }
noncomputable def eqRowS (a : List GRow) (b : List GRow) : Option (Bool) :=
  bif ((a.length : Int) != (b.length : Int)) then
    some (false)
  else
  loopD (fun (x1 : (List GRow) × (List GRow) × Int) =>
    bif (decide (x1.2.2 < (x1.1.length : Int))) then
      (idx x1.1 x1.2.2).bind fun e2 =>
      (idx x1.2.1 x1.2.2).bind fun e3 =>
      (eqRow e2 e3).bind fun r4 =>
      bif (!r4) then
        some (.inr (false))
      else
        some (.inl (x1.1, x1.2.1, w64 (x1.2.2 + 1)))
    else
      some (.inr (true))
  ) (a, b, 0)
noncomputable def eqRowSFS : Fsp := { fid := 228, ps := [⟨false, .list (.base .row)⟩, ⟨false, .list (.base .row)⟩], rs := [⟨false, .base .bool⟩], ex := true, fn := fun x => eqRowS x.1 x.2 }
noncomputable def eqValueB (reqValue : GVal → GVal → Option (Bool)) (reqValueS : (List GVal) → (List GVal) → Option (Bool)) (a : GVal) (b : GVal) : Option (Bool) :=
  bif (a.kind != b.kind) then
    some (false)
  else
  bif (a.n != b.n) then
    some (false)
  else
  bif (a.step != b.step) then
    some (false)
  else
  bif (!(a.text == b.text)) then
    some (false)
  else
  (reqValueS a.list b.list).bind fun r1 =>
  bif (!r1) then
    some (false)
  else
    (eqStringS a.columns b.columns).bind fun r2 =>
    bif (!r2) then
      some (false)
    else
      (eqRowS a.rows b.rows).bind fun r3 =>
      bif (!r3) then
        some (false)
      else
        some (true)
noncomputable def eqValueSB (reqValue : GVal → GVal → Option (Bool)) (reqValueS : (List GVal) → (List GVal) → Option (Bool)) (a : List GVal) (b : List GVal) : Option (Bool) :=
  bif ((a.length : Int) != (b.length : Int)) then
    some (false)
  else
  loopD (fun (x1 : (List GVal) × (List GVal) × Int) =>
    bif (decide (x1.2.2 < (x1.1.length : Int))) then
      (idx x1.1 x1.2.2).bind fun e2 =>
      (idx x1.2.1 x1.2.2).bind fun e3 =>
      (reqValue (reVal e2) (reVal e3)).bind fun r4 =>
      bif (!r4) then
        some (.inr (false))
      else
        some (.inl (x1.1, x1.2.1, w64 (x1.2.2 + 1)))
    else
      some (.inr (true))
  ) (a, b, 0)
noncomputable def eqValueG : Nat → (GVal → GVal → Option (Bool)) × ((List GVal) → (List GVal) → Option (Bool))
  | 0 => (fun _ _ => none, fun _ _ => none)
  | n + 1 => (eqValueB (eqValueG n).1 (eqValueG n).2, eqValueSB (eqValueG n).1 (eqValueG n).2)
noncomputable def eqValue (a : GVal) (b : GVal) : Option (Bool) := (eqValueG (siz a + siz b + 1)).1 a b
noncomputable def eqValueFS : Fsp := { fid := 198, ps := [⟨true, .base .val⟩, ⟨true, .base .val⟩], rs := [⟨false, .base .bool⟩], ex := true, fn := fun x => eqValue x.1 x.2 }
noncomputable def eqValueFSN (n : Nat) : Fsp := { fid := 198, ps := [⟨true, .base .val⟩, ⟨true, .base .val⟩], rs := [⟨false, .base .bool⟩], ex := true, fn := fun x => (eqValueG n).1 x.1 x.2 }
noncomputable def eqValueS (a : List GVal) (b : List GVal) : Option (Bool) := (eqValueG (siz a + siz b + 1)).2 a b
noncomputable def eqValueSFS : Fsp := { fid := 226, ps := [⟨false, .list (.base .val)⟩, ⟨false, .list (.base .val)⟩], rs := [⟨false, .base .bool⟩], ex := true, fn := fun x => eqValueS x.1 x.2 }
noncomputable def eqValueSFSN (n : Nat) : Fsp := { fid := 226, ps := [⟨false, .list (.base .val)⟩, ⟨false, .list (.base .val)⟩], rs := [⟨false, .base .bool⟩], ex := true, fn := fun x => (eqValueG n).2 x.1 x.2 }
noncomputable def eqRead (a : GRead) (b : GRead) : Option (Bool) :=
  bif (a.kind != b.kind) then
    some (false)
  else
  bif (a.n != b.n) then
    some (false)
  else
  bif (a.time != b.time) then
    some (false)
  else
    bif (!(a.text == b.text)) then
      some (false)
    else
      (eqValue (reVal a.result) (reVal b.result)).bind fun r1 =>
      bif (!r1) then
        some (false)
      else
        some (true)
noncomputable def eqReadFS : Fsp := { fid := 177, ps := [⟨true, .base .read⟩, ⟨true, .base .read⟩], rs := [⟨false, .base .bool⟩], ex := true, fn := fun x => eqRead x.1 x.2 }
noncomputable def eqReadS (a : List GRead) (b : List GRead) : Option (Bool) :=
  bif ((a.length : Int) != (b.length : Int)) then
    some (false)
  else
  loopD (fun (x1 : (List GRead) × (List GRead) × Int) =>
    bif (decide (x1.2.2 < (x1.1.length : Int))) then
      (idx x1.1 x1.2.2).bind fun e2 =>
      (idx x1.2.1 x1.2.2).bind fun e3 =>
      (eqRead (reRead e2) (reRead e3)).bind fun r4 =>
      bif (!r4) then
        some (.inr (false))
      else
        some (.inl (x1.1, x1.2.1, w64 (x1.2.2 + 1)))
    else
      some (.inr (true))
  ) (a, b, 0)
noncomputable def eqReadSFS : Fsp := { fid := 132, ps := [⟨false, .list (.base .read)⟩, ⟨false, .list (.base .read)⟩], rs := [⟨false, .base .bool⟩], ex := true, fn := fun x => eqReadS x.1 x.2 }
noncomputable def eqOp (a : GOp) (b : GOp) : Option (Bool) :=
  bif (a.time != b.time) then
    some (false)
  else
  bif (a.by_ != b.by_) then
    some (false)
  else
  bif (a.kind != b.kind) then
    some (false)
  else
  (eqIntS a.seen b.seen).bind fun r1 =>
  bif (!r1) then
    some (false)
  else
  (eqEdit a.edit b.edit).bind fun r2 =>
  bif (!r2) then
    some (false)
  else
  bif (!(a.src == b.src)) then
    some (false)
  else
  bif (!(a.dst == b.dst)) then
    some (false)
  else
  bif (a.cell != b.cell) then
    some (false)
  else
    bif (a.version != b.version) then
      some (false)
    else
      (eqReadS a.reads b.reads).bind fun r3 =>
      bif (!r3) then
        some (false)
      else
        some (true)
noncomputable def eqOpFS : Fsp := { fid := 59, ps := [⟨true, .base .op⟩, ⟨true, .base .op⟩], rs := [⟨false, .base .bool⟩], ex := true, fn := fun x => eqOp x.1 x.2 }
noncomputable def eqOpS (a : List GOp) (b : List GOp) : Option (Bool) :=
  bif ((a.length : Int) != (b.length : Int)) then
    some (false)
  else
  loopD (fun (x1 : (List GOp) × (List GOp) × Int) =>
    bif (decide (x1.2.2 < (x1.1.length : Int))) then
      (idx x1.1 x1.2.2).bind fun e2 =>
      (idx x1.2.1 x1.2.2).bind fun e3 =>
      (eqOp e2 e3).bind fun r4 =>
      bif (!r4) then
        some (.inr (false))
      else
        some (.inl (x1.1, x1.2.1, w64 (x1.2.2 + 1)))
    else
      some (.inr (true))
  ) (a, b, 0)
noncomputable def eqOpSFS : Fsp := { fid := 41, ps := [⟨false, .list (.base .op)⟩, ⟨false, .list (.base .op)⟩], rs := [⟨false, .base .bool⟩], ex := true, fn := fun x => eqOpS x.1 x.2 }
noncomputable def eqReplica (a : GReplica) (b : GReplica) : Option (Bool) :=
  bif (a.id != b.id) then
    some (false)
  else
    (eqOpS a.ops b.ops).bind fun r1 =>
    bif (!r1) then
      some (false)
    else
      some (true)
noncomputable def eqReplicaFS : Fsp := { fid := 42, ps := [⟨true, .base .replica⟩, ⟨true, .base .replica⟩], rs := [⟨false, .base .bool⟩], ex := true, fn := fun x => eqReplica x.1 x.2 }
noncomputable def markIntS (a : List Int) (b : Int) : Option (List Int × Int) :=
  loopD (fun (x : List Int × Int × Int) =>
    bif (decide (x.2.1 < (x.1.length : Int))) then
      (idx x.1 x.2.1).bind fun _ =>
      (x.1[x.2.1.toNat]?).bind fun e1 =>
      (some (x.1.set x.2.1.toNat x.2.2)).bind fun z2 =>
      some (.inl (z2, w64 (x.2.1 + 1), w64 (x.2.2 + 1)))
    else
      some (.inr (x.1, x.2.2))
  ) (a, 0, b)
noncomputable def markIntSMS : Msp := { fid := 45, sh := ⟨false, .list (.base .int)⟩, fn := fun x n => markIntS x n }
noncomputable def markStringS (a : List Str) (b : Int) : Option (List Str × Int) :=
  loopD (fun (x : List Str × Int × Int) =>
    bif (decide (x.2.1 < (x.1.length : Int))) then
      (markText x.2.2).bind fun t1 =>
      (idx x.1 x.2.1).bind fun _ =>
      (x.1[x.2.1.toNat]?).bind fun e2 =>
      (some (x.1.set x.2.1.toNat t1)).bind fun z3 =>
      some (.inl (z3, w64 (x.2.1 + 1), w64 (x.2.2 + 1)))
    else
      some (.inr (x.1, x.2.2))
  ) (a, 0, b)
noncomputable def markStringSMS : Msp := { fid := 159, sh := ⟨false, .list (.base .str)⟩, fn := fun x n => markStringS x n }
noncomputable def markOriginS (a : List GOrigin) (b : Int) : Option (List GOrigin × Int) :=
  loopD (fun (x : List GOrigin × Int × Int) =>
    bif (decide (x.2.1 < (x.1.length : Int))) then
      (idx x.1 x.2.1).bind fun _ =>
      (x.1[x.2.1.toNat]?).bind fun e1 =>
      (some (x.1.set x.2.1.toNat (GOrigin.mk x.2.2 e1.row))).bind fun z2 =>
      (idx z2 x.2.1).bind fun _ =>
      (z2[x.2.1.toNat]?).bind fun e3 =>
      (some (z2.set x.2.1.toNat (GOrigin.mk e3.cell (w64 (x.2.2 + 1))))).bind fun z4 =>
      some (.inl (z4, w64 (x.2.1 + 1), w64 ((w64 (x.2.2 + 1)) + 1)))
    else
      some (.inr (x.1, x.2.2))
  ) (a, 0, b)
noncomputable def markOriginSMS : Msp := { fid := 190, sh := ⟨false, .list (.base .origin)⟩, fn := fun x n => markOriginS x n }
noncomputable def markRowS (a : List GRow) (b : Int) : Option (List GRow × Int) :=
  loopD (fun (x : List GRow × Int × Int) =>
    bif (decide (x.2.1 < (x.1.length : Int))) then
      (idx x.1 x.2.1).bind fun _ =>
      (x.1[x.2.1.toNat]?).bind fun e1 =>
      (x.1[x.2.1.toNat]?).bind fun e2 =>
      (markIntS e2.cells x.2.2).bind fun r3 =>
      (some (x.1.set x.2.1.toNat (GRow.mk r3.1 e2.orig))).bind fun z4 =>
      (idx z4 x.2.1).bind fun _ =>
      (z4[x.2.1.toNat]?).bind fun e5 =>
      (z4[x.2.1.toNat]?).bind fun e6 =>
      (markOriginS e6.orig r3.2).bind fun r7 =>
      (some (z4.set x.2.1.toNat (GRow.mk e6.cells r7.1))).bind fun z8 =>
      some (.inl (z8, w64 (x.2.1 + 1), r7.2))
    else
      some (.inr (x.1, x.2.2))
  ) (a, 0, b)
noncomputable def markRowSMS : Msp := { fid := 160, sh := ⟨false, .list (.base .row)⟩, fn := fun x n => markRowS x n }
noncomputable def markValueSB (rmarkValueS : (List GVal) → Int → Option (List GVal × Int)) (a : List GVal) (b : Int) : Option (List GVal × Int) :=
  loopD (fun (x : List GVal × Int × Int) =>
    bif (decide (x.2.1 < (x.1.length : Int))) then
      (idx x.1 x.2.1).bind fun _ =>
      (x.1[x.2.1.toNat]?).bind fun e1 =>
      (some (x.1.set x.2.1.toNat (GVal.mk x.2.2 e1.n e1.step e1.text e1.list e1.columns e1.rows))).bind fun z2 =>
      (idx z2 x.2.1).bind fun _ =>
      (z2[x.2.1.toNat]?).bind fun e3 =>
      (some (z2.set x.2.1.toNat (GVal.mk e3.kind (w64 (x.2.2 + 1)) e3.step e3.text e3.list e3.columns e3.rows))).bind fun z4 =>
      (idx z4 x.2.1).bind fun _ =>
      (z4[x.2.1.toNat]?).bind fun e5 =>
      (some (z4.set x.2.1.toNat (GVal.mk e5.kind e5.n (w64 ((w64 (x.2.2 + 1)) + 1)) e5.text e5.list e5.columns e5.rows))).bind fun z6 =>
      (markText (w64 ((w64 ((w64 (x.2.2 + 1)) + 1)) + 1))).bind fun t7 =>
      (idx z6 x.2.1).bind fun _ =>
      (z6[x.2.1.toNat]?).bind fun e8 =>
      (some (z6.set x.2.1.toNat (GVal.mk e8.kind e8.n e8.step t7 e8.list e8.columns e8.rows))).bind fun z9 =>
      (idx z9 x.2.1).bind fun _ =>
      (z9[x.2.1.toNat]?).bind fun e10 =>
      (z9[x.2.1.toNat]?).bind fun e11 =>
      (rmarkValueS e11.list (w64 ((w64 ((w64 ((w64 (x.2.2 + 1)) + 1)) + 1)) + 1))).bind fun r12 =>
      (some (z9.set x.2.1.toNat (GVal.mk e11.kind e11.n e11.step e11.text r12.1 e11.columns e11.rows))).bind fun z13 =>
      (idx z13 x.2.1).bind fun _ =>
      (z13[x.2.1.toNat]?).bind fun e14 =>
      (z13[x.2.1.toNat]?).bind fun e15 =>
      (markStringS e15.columns r12.2).bind fun r16 =>
      (some (z13.set x.2.1.toNat (GVal.mk e15.kind e15.n e15.step e15.text e15.list r16.1 e15.rows))).bind fun z17 =>
      (idx z17 x.2.1).bind fun _ =>
      (z17[x.2.1.toNat]?).bind fun e18 =>
      (z17[x.2.1.toNat]?).bind fun e19 =>
      (markRowS e19.rows r16.2).bind fun r20 =>
      (some (z17.set x.2.1.toNat (GVal.mk e19.kind e19.n e19.step e19.text e19.list e19.columns r20.1))).bind fun z21 =>
      some (.inl (z21, w64 (x.2.1 + 1), r20.2))
    else
      some (.inr (x.1, x.2.2))
  ) (a, 0, b)
noncomputable def markValueSG : Nat → (List GVal) → Int → Option (List GVal × Int)
  | 0 => fun _ _ => none
  | n + 1 => markValueSB (markValueSG n)
noncomputable def markValueS (a : List GVal) (b : Int) : Option (List GVal × Int) := markValueSG (siz a + 1) a b
noncomputable def markValueSMSN (k : Nat) : Msp := { fid := 158, sh := ⟨false, .list (.base .val)⟩, fn := fun x n => markValueSG k x n }
noncomputable def markValueSMS : Msp := { fid := 158, sh := ⟨false, .list (.base .val)⟩, fn := fun x n => markValueS x n }
noncomputable def markReadS (a : List GRead) (b : Int) : Option (List GRead × Int) :=
  loopD (fun (x : List GRead × Int × Int) =>
    bif (decide (x.2.1 < (x.1.length : Int))) then
      (idx x.1 x.2.1).bind fun _ =>
      (x.1[x.2.1.toNat]?).bind fun e1 =>
      (some (x.1.set x.2.1.toNat (GRead.mk x.2.2 e1.n e1.time e1.text (reVal e1.result)))).bind fun z2 =>
      (idx z2 x.2.1).bind fun _ =>
      (z2[x.2.1.toNat]?).bind fun e3 =>
      (some (z2.set x.2.1.toNat (GRead.mk e3.kind (w64 (x.2.2 + 1)) e3.time e3.text (reVal e3.result)))).bind fun z4 =>
      (idx z4 x.2.1).bind fun _ =>
      (z4[x.2.1.toNat]?).bind fun e5 =>
      (some (z4.set x.2.1.toNat (GRead.mk e5.kind e5.n (w64 ((w64 (x.2.2 + 1)) + 1)) e5.text (reVal e5.result)))).bind fun z6 =>
      (markText (w64 ((w64 ((w64 (x.2.2 + 1)) + 1)) + 1))).bind fun t7 =>
      (idx z6 x.2.1).bind fun _ =>
      (z6[x.2.1.toNat]?).bind fun e8 =>
      (some (z6.set x.2.1.toNat (GRead.mk e8.kind e8.n e8.time t7 (reVal e8.result)))).bind fun z9 =>
      (idx z9 x.2.1).bind fun _ =>
      (z9[x.2.1.toNat]?).bind fun e10 =>
      (some (z9.set x.2.1.toNat (GRead.mk e10.kind e10.n e10.time e10.text (GVal.mk (w64 ((w64 ((w64 ((w64 (x.2.2 + 1)) + 1)) + 1)) + 1)) e10.result.n e10.result.step e10.result.text e10.result.list e10.result.columns e10.result.rows)))).bind fun z11 =>
      (idx z11 x.2.1).bind fun _ =>
      (z11[x.2.1.toNat]?).bind fun e12 =>
      (some (z11.set x.2.1.toNat (GRead.mk e12.kind e12.n e12.time e12.text (GVal.mk e12.result.kind (w64 ((w64 ((w64 ((w64 ((w64 (x.2.2 + 1)) + 1)) + 1)) + 1)) + 1)) e12.result.step e12.result.text e12.result.list e12.result.columns e12.result.rows)))).bind fun z13 =>
      (idx z13 x.2.1).bind fun _ =>
      (z13[x.2.1.toNat]?).bind fun e14 =>
      (some (z13.set x.2.1.toNat (GRead.mk e14.kind e14.n e14.time e14.text (GVal.mk e14.result.kind e14.result.n (w64 ((w64 ((w64 ((w64 ((w64 ((w64 (x.2.2 + 1)) + 1)) + 1)) + 1)) + 1)) + 1)) e14.result.text e14.result.list e14.result.columns e14.result.rows)))).bind fun z15 =>
      (markText (w64 ((w64 ((w64 ((w64 ((w64 ((w64 ((w64 (x.2.2 + 1)) + 1)) + 1)) + 1)) + 1)) + 1)) + 1))).bind fun t16 =>
      (idx z15 x.2.1).bind fun _ =>
      (z15[x.2.1.toNat]?).bind fun e17 =>
      (some (z15.set x.2.1.toNat (GRead.mk e17.kind e17.n e17.time e17.text (GVal.mk e17.result.kind e17.result.n e17.result.step t16 e17.result.list e17.result.columns e17.result.rows)))).bind fun z18 =>
      (idx z18 x.2.1).bind fun _ =>
      (z18[x.2.1.toNat]?).bind fun e19 =>
      (z18[x.2.1.toNat]?).bind fun e20 =>
      (markValueS e20.result.list (w64 ((w64 ((w64 ((w64 ((w64 ((w64 ((w64 ((w64 (x.2.2 + 1)) + 1)) + 1)) + 1)) + 1)) + 1)) + 1)) + 1))).bind fun r21 =>
      (some (z18.set x.2.1.toNat (GRead.mk e20.kind e20.n e20.time e20.text (GVal.mk e20.result.kind e20.result.n e20.result.step e20.result.text r21.1 e20.result.columns e20.result.rows)))).bind fun z22 =>
      (idx z22 x.2.1).bind fun _ =>
      (z22[x.2.1.toNat]?).bind fun e23 =>
      (z22[x.2.1.toNat]?).bind fun e24 =>
      (markStringS e24.result.columns r21.2).bind fun r25 =>
      (some (z22.set x.2.1.toNat (GRead.mk e24.kind e24.n e24.time e24.text (GVal.mk e24.result.kind e24.result.n e24.result.step e24.result.text e24.result.list r25.1 e24.result.rows)))).bind fun z26 =>
      (idx z26 x.2.1).bind fun _ =>
      (z26[x.2.1.toNat]?).bind fun e27 =>
      (z26[x.2.1.toNat]?).bind fun e28 =>
      (markRowS e28.result.rows r25.2).bind fun r29 =>
      (some (z26.set x.2.1.toNat (GRead.mk e28.kind e28.n e28.time e28.text (GVal.mk e28.result.kind e28.result.n e28.result.step e28.result.text e28.result.list e28.result.columns r29.1)))).bind fun z30 =>
      some (.inl (z30, w64 (x.2.1 + 1), r29.2))
    else
      some (.inr (x.1, x.2.2))
  ) (a, 0, b)
noncomputable def markReadSMS : Msp := { fid := 104, sh := ⟨false, .list (.base .read)⟩, fn := fun x n => markReadS x n }
noncomputable def markOpS (a : List GOp) (b : Int) : Option (List GOp × Int) :=
  loopD (fun (x : List GOp × Int × Int) =>
    bif (decide (x.2.1 < (x.1.length : Int))) then
      (idx x.1 x.2.1).bind fun _ =>
      (x.1[x.2.1.toNat]?).bind fun e1 =>
      (some (x.1.set x.2.1.toNat (GOp.mk x.2.2 e1.by_ e1.kind e1.seen e1.edit e1.src e1.dst e1.cell e1.version e1.reads))).bind fun z2 =>
      (idx z2 x.2.1).bind fun _ =>
      (z2[x.2.1.toNat]?).bind fun e3 =>
      (some (z2.set x.2.1.toNat (GOp.mk e3.time (w64 (x.2.2 + 1)) e3.kind e3.seen e3.edit e3.src e3.dst e3.cell e3.version e3.reads))).bind fun z4 =>
      (idx z4 x.2.1).bind fun _ =>
      (z4[x.2.1.toNat]?).bind fun e5 =>
      (some (z4.set x.2.1.toNat (GOp.mk e5.time e5.by_ (w64 ((w64 (x.2.2 + 1)) + 1)) e5.seen e5.edit e5.src e5.dst e5.cell e5.version e5.reads))).bind fun z6 =>
      (idx z6 x.2.1).bind fun _ =>
      (z6[x.2.1.toNat]?).bind fun e7 =>
      (z6[x.2.1.toNat]?).bind fun e8 =>
      (markIntS e8.seen (w64 ((w64 ((w64 (x.2.2 + 1)) + 1)) + 1))).bind fun r9 =>
      (some (z6.set x.2.1.toNat (GOp.mk e8.time e8.by_ e8.kind r9.1 e8.edit e8.src e8.dst e8.cell e8.version e8.reads))).bind fun z10 =>
      (idx z10 x.2.1).bind fun _ =>
      (z10[x.2.1.toNat]?).bind fun e11 =>
      (some (z10.set x.2.1.toNat (GOp.mk e11.time e11.by_ e11.kind e11.seen (GEdit.mk r9.2 e11.edit.pos e11.edit.cell) e11.src e11.dst e11.cell e11.version e11.reads))).bind fun z12 =>
      (idx z12 x.2.1).bind fun _ =>
      (z12[x.2.1.toNat]?).bind fun e13 =>
      (some (z12.set x.2.1.toNat (GOp.mk e13.time e13.by_ e13.kind e13.seen (GEdit.mk e13.edit.kind (w64 (r9.2 + 1)) e13.edit.cell) e13.src e13.dst e13.cell e13.version e13.reads))).bind fun z14 =>
      (idx z14 x.2.1).bind fun _ =>
      (z14[x.2.1.toNat]?).bind fun e15 =>
      (some (z14.set x.2.1.toNat (GOp.mk e15.time e15.by_ e15.kind e15.seen (GEdit.mk e15.edit.kind e15.edit.pos (GCell.mk (w64 ((w64 (r9.2 + 1)) + 1)) e15.edit.cell.version e15.edit.cell.kind e15.edit.cell.name e15.edit.cell.code e15.edit.cell.n)) e15.src e15.dst e15.cell e15.version e15.reads))).bind fun z16 =>
      (idx z16 x.2.1).bind fun _ =>
      (z16[x.2.1.toNat]?).bind fun e17 =>
      (some (z16.set x.2.1.toNat (GOp.mk e17.time e17.by_ e17.kind e17.seen (GEdit.mk e17.edit.kind e17.edit.pos (GCell.mk e17.edit.cell.id (w64 ((w64 ((w64 (r9.2 + 1)) + 1)) + 1)) e17.edit.cell.kind e17.edit.cell.name e17.edit.cell.code e17.edit.cell.n)) e17.src e17.dst e17.cell e17.version e17.reads))).bind fun z18 =>
      (idx z18 x.2.1).bind fun _ =>
      (z18[x.2.1.toNat]?).bind fun e19 =>
      (some (z18.set x.2.1.toNat (GOp.mk e19.time e19.by_ e19.kind e19.seen (GEdit.mk e19.edit.kind e19.edit.pos (GCell.mk e19.edit.cell.id e19.edit.cell.version (w64 ((w64 ((w64 ((w64 (r9.2 + 1)) + 1)) + 1)) + 1)) e19.edit.cell.name e19.edit.cell.code e19.edit.cell.n)) e19.src e19.dst e19.cell e19.version e19.reads))).bind fun z20 =>
      (markText (w64 ((w64 ((w64 ((w64 ((w64 (r9.2 + 1)) + 1)) + 1)) + 1)) + 1))).bind fun t21 =>
      (idx z20 x.2.1).bind fun _ =>
      (z20[x.2.1.toNat]?).bind fun e22 =>
      (some (z20.set x.2.1.toNat (GOp.mk e22.time e22.by_ e22.kind e22.seen (GEdit.mk e22.edit.kind e22.edit.pos (GCell.mk e22.edit.cell.id e22.edit.cell.version e22.edit.cell.kind t21 e22.edit.cell.code e22.edit.cell.n)) e22.src e22.dst e22.cell e22.version e22.reads))).bind fun z23 =>
      (markText (w64 ((w64 ((w64 ((w64 ((w64 ((w64 (r9.2 + 1)) + 1)) + 1)) + 1)) + 1)) + 1))).bind fun t24 =>
      (idx z23 x.2.1).bind fun _ =>
      (z23[x.2.1.toNat]?).bind fun e25 =>
      (some (z23.set x.2.1.toNat (GOp.mk e25.time e25.by_ e25.kind e25.seen (GEdit.mk e25.edit.kind e25.edit.pos (GCell.mk e25.edit.cell.id e25.edit.cell.version e25.edit.cell.kind e25.edit.cell.name t24 e25.edit.cell.n)) e25.src e25.dst e25.cell e25.version e25.reads))).bind fun z26 =>
      (idx z26 x.2.1).bind fun _ =>
      (z26[x.2.1.toNat]?).bind fun e27 =>
      (some (z26.set x.2.1.toNat (GOp.mk e27.time e27.by_ e27.kind e27.seen (GEdit.mk e27.edit.kind e27.edit.pos (GCell.mk e27.edit.cell.id e27.edit.cell.version e27.edit.cell.kind e27.edit.cell.name e27.edit.cell.code (w64 ((w64 ((w64 ((w64 ((w64 ((w64 ((w64 (r9.2 + 1)) + 1)) + 1)) + 1)) + 1)) + 1)) + 1)))) e27.src e27.dst e27.cell e27.version e27.reads))).bind fun z28 =>
      (markText (w64 ((w64 ((w64 ((w64 ((w64 ((w64 ((w64 ((w64 (r9.2 + 1)) + 1)) + 1)) + 1)) + 1)) + 1)) + 1)) + 1))).bind fun t29 =>
      (idx z28 x.2.1).bind fun _ =>
      (z28[x.2.1.toNat]?).bind fun e30 =>
      (some (z28.set x.2.1.toNat (GOp.mk e30.time e30.by_ e30.kind e30.seen e30.edit t29 e30.dst e30.cell e30.version e30.reads))).bind fun z31 =>
      (markText (w64 ((w64 ((w64 ((w64 ((w64 ((w64 ((w64 ((w64 ((w64 (r9.2 + 1)) + 1)) + 1)) + 1)) + 1)) + 1)) + 1)) + 1)) + 1))).bind fun t32 =>
      (idx z31 x.2.1).bind fun _ =>
      (z31[x.2.1.toNat]?).bind fun e33 =>
      (some (z31.set x.2.1.toNat (GOp.mk e33.time e33.by_ e33.kind e33.seen e33.edit e33.src t32 e33.cell e33.version e33.reads))).bind fun z34 =>
      (idx z34 x.2.1).bind fun _ =>
      (z34[x.2.1.toNat]?).bind fun e35 =>
      (some (z34.set x.2.1.toNat (GOp.mk e35.time e35.by_ e35.kind e35.seen e35.edit e35.src e35.dst (w64 ((w64 ((w64 ((w64 ((w64 ((w64 ((w64 ((w64 ((w64 ((w64 (r9.2 + 1)) + 1)) + 1)) + 1)) + 1)) + 1)) + 1)) + 1)) + 1)) + 1)) e35.version e35.reads))).bind fun z36 =>
      (idx z36 x.2.1).bind fun _ =>
      (z36[x.2.1.toNat]?).bind fun e37 =>
      (some (z36.set x.2.1.toNat (GOp.mk e37.time e37.by_ e37.kind e37.seen e37.edit e37.src e37.dst e37.cell (w64 ((w64 ((w64 ((w64 ((w64 ((w64 ((w64 ((w64 ((w64 ((w64 ((w64 (r9.2 + 1)) + 1)) + 1)) + 1)) + 1)) + 1)) + 1)) + 1)) + 1)) + 1)) + 1)) e37.reads))).bind fun z38 =>
      (idx z38 x.2.1).bind fun _ =>
      (z38[x.2.1.toNat]?).bind fun e39 =>
      (z38[x.2.1.toNat]?).bind fun e40 =>
      (markReadS e40.reads (w64 ((w64 ((w64 ((w64 ((w64 ((w64 ((w64 ((w64 ((w64 ((w64 ((w64 ((w64 (r9.2 + 1)) + 1)) + 1)) + 1)) + 1)) + 1)) + 1)) + 1)) + 1)) + 1)) + 1)) + 1))).bind fun r41 =>
      (some (z38.set x.2.1.toNat (GOp.mk e40.time e40.by_ e40.kind e40.seen e40.edit e40.src e40.dst e40.cell e40.version r41.1))).bind fun z42 =>
      some (.inl (z42, w64 (x.2.1 + 1), r41.2))
    else
      some (.inr (x.1, x.2.2))
  ) (a, 0, b)
noncomputable def markOpSMS : Msp := { fid := 46, sh := ⟨false, .list (.base .op)⟩, fn := fun x n => markOpS x n }
noncomputable def markReplica (a : GReplica) (b : Int) : Option (GReplica × Int) :=
  (markOpS a.ops b).bind fun r1 =>
  some (GReplica.mk a.id r1.1, r1.2)
noncomputable def markReplicaMS : Msp := { fid := 44, sh := ⟨true, .base .replica⟩, fn := fun x n => markReplica x n }
noncomputable def heldIntS (a : List Int) (b : Int) : Option (Int) :=
  loopD (fun (x1 : (List Int) × Int × Int) =>
    bif (decide (x1.2.2 < (x1.1.length : Int))) then
      (idx x1.1 x1.2.2).bind fun e2 =>
      bif (e2 != x1.2.1) then
        some (.inr ((-1)))
      else
        some (.inl (x1.1, w64 (x1.2.1 + 1), w64 (x1.2.2 + 1)))
    else
      some (.inr (x1.2.1))
  ) (a, b, 0)
noncomputable def heldIntSFS : Fsp := { fid := 105, ps := [⟨false, .list (.base .int)⟩, ⟨false, .base .int⟩], rs := [⟨false, .base .int⟩], ex := true, fn := fun x => heldIntS x.1 x.2 }
noncomputable def heldStringS (a : List Str) (b : Int) : Option (Int) :=
  loopD (fun (x1 : (List Str) × Int × Int) =>
    bif (decide (x1.2.2 < (x1.1.length : Int))) then
      (idx x1.1 x1.2.2).bind fun e2 =>
      (markText x1.2.1).bind fun r3 =>
      bif (!(e2 == r3)) then
        some (.inr ((-1)))
      else
        some (.inl (x1.1, w64 (x1.2.1 + 1), w64 (x1.2.2 + 1)))
    else
      some (.inr (x1.2.1))
  ) (a, b, 0)
noncomputable def heldStringSFS : Fsp := { fid := 162, ps := [⟨false, .list (.base .str)⟩, ⟨false, .base .int⟩], rs := [⟨false, .base .int⟩], ex := true, fn := fun x => heldStringS x.1 x.2 }
noncomputable def heldOriginS (a : List GOrigin) (b : Int) : Option (Int) :=
  loopD (fun (x1 : (List GOrigin) × Int × Int) =>
    bif (decide (x1.2.2 < (x1.1.length : Int))) then
      (idx x1.1 x1.2.2).bind fun e2 =>
      bif (e2.cell != x1.2.1) then
        some (.inr ((-1)))
      else
        (idx x1.1 x1.2.2).bind fun e3 =>
        bif (e3.row != (w64 (x1.2.1 + 1))) then
          some (.inr ((-1)))
        else
          some (.inl (x1.1, w64 ((w64 (x1.2.1 + 1)) + 1), w64 (x1.2.2 + 1)))
    else
      some (.inr (x1.2.1))
  ) (a, b, 0)
noncomputable def heldOriginSFS : Fsp := { fid := 191, ps := [⟨false, .list (.base .origin)⟩, ⟨false, .base .int⟩], rs := [⟨false, .base .int⟩], ex := true, fn := fun x => heldOriginS x.1 x.2 }
noncomputable def heldRowS (a : List GRow) (b : Int) : Option (Int) :=
  loopD (fun (x1 : (List GRow) × Int × Int) =>
    bif (decide (x1.2.2 < (x1.1.length : Int))) then
      (idx x1.1 x1.2.2).bind fun e2 =>
      (heldIntS e2.cells x1.2.1).bind fun r3 =>
      bif (decide (r3 < 0)) then
        some (.inr ((-1)))
      else
        (idx x1.1 x1.2.2).bind fun e4 =>
        (heldOriginS e4.orig r3).bind fun r5 =>
        bif (decide (r5 < 0)) then
          some (.inr ((-1)))
        else
          some (.inl (x1.1, r5, w64 (x1.2.2 + 1)))
    else
      some (.inr (x1.2.1))
  ) (a, b, 0)
noncomputable def heldRowSFS : Fsp := { fid := 163, ps := [⟨false, .list (.base .row)⟩, ⟨false, .base .int⟩], rs := [⟨false, .base .int⟩], ex := true, fn := fun x => heldRowS x.1 x.2 }
noncomputable def heldValueSB (rheldValueS : (List GVal) → Int → Option (Int)) (a : List GVal) (b : Int) : Option (Int) :=
  loopD (fun (x1 : (List GVal) × Int × Int) =>
    bif (decide (x1.2.2 < (x1.1.length : Int))) then
      (idx x1.1 x1.2.2).bind fun e2 =>
      bif (e2.kind != x1.2.1) then
        some (.inr ((-1)))
      else
      (idx x1.1 x1.2.2).bind fun e3 =>
      bif (e3.n != (w64 (x1.2.1 + 1))) then
        some (.inr ((-1)))
      else
      (idx x1.1 x1.2.2).bind fun e4 =>
      bif (e4.step != (w64 ((w64 (x1.2.1 + 1)) + 1))) then
        some (.inr ((-1)))
      else
      (idx x1.1 x1.2.2).bind fun e5 =>
      (markText (w64 ((w64 ((w64 (x1.2.1 + 1)) + 1)) + 1))).bind fun r6 =>
      bif (!(e5.text == r6)) then
        some (.inr ((-1)))
      else
      (idx x1.1 x1.2.2).bind fun e7 =>
      (rheldValueS e7.list (w64 ((w64 ((w64 ((w64 (x1.2.1 + 1)) + 1)) + 1)) + 1))).bind fun r8 =>
      bif (decide (r8 < 0)) then
        some (.inr ((-1)))
      else
      (idx x1.1 x1.2.2).bind fun e9 =>
      (heldStringS e9.columns r8).bind fun r10 =>
      bif (decide (r10 < 0)) then
        some (.inr ((-1)))
      else
        (idx x1.1 x1.2.2).bind fun e11 =>
        (heldRowS e11.rows r10).bind fun r12 =>
        bif (decide (r12 < 0)) then
          some (.inr ((-1)))
        else
          some (.inl (x1.1, r12, w64 (x1.2.2 + 1)))
    else
      some (.inr (x1.2.1))
  ) (a, b, 0)
noncomputable def heldValueSG : Nat → ((List GVal) → Int → Option (Int))
  | 0 => fun _ _ => none
  | n + 1 => heldValueSB (heldValueSG n)
noncomputable def heldValueS (a : List GVal) (b : Int) : Option (Int) := (heldValueSG (siz a + 1)) a b
noncomputable def heldValueSFS : Fsp := { fid := 161, ps := [⟨false, .list (.base .val)⟩, ⟨false, .base .int⟩], rs := [⟨false, .base .int⟩], ex := true, fn := fun x => heldValueS x.1 x.2 }
noncomputable def heldValueSFSN (n : Nat) : Fsp := { fid := 161, ps := [⟨false, .list (.base .val)⟩, ⟨false, .base .int⟩], rs := [⟨false, .base .int⟩], ex := true, fn := fun x => (heldValueSG n) x.1 x.2 }
noncomputable def heldReadS (a : List GRead) (b : Int) : Option (Int) :=
  loopD (fun (x1 : (List GRead) × Int × Int) =>
    bif (decide (x1.2.2 < (x1.1.length : Int))) then
      (idx x1.1 x1.2.2).bind fun e2 =>
      bif (e2.kind != x1.2.1) then
        some (.inr ((-1)))
      else
      (idx x1.1 x1.2.2).bind fun e3 =>
      bif (e3.n != (w64 (x1.2.1 + 1))) then
        some (.inr ((-1)))
      else
      (idx x1.1 x1.2.2).bind fun e4 =>
      bif (e4.time != (w64 ((w64 (x1.2.1 + 1)) + 1))) then
        some (.inr ((-1)))
      else
      (idx x1.1 x1.2.2).bind fun e5 =>
      (markText (w64 ((w64 ((w64 (x1.2.1 + 1)) + 1)) + 1))).bind fun r6 =>
      bif (!(e5.text == r6)) then
        some (.inr ((-1)))
      else
      (idx x1.1 x1.2.2).bind fun e7 =>
      bif (e7.result.kind != (w64 ((w64 ((w64 ((w64 (x1.2.1 + 1)) + 1)) + 1)) + 1))) then
        some (.inr ((-1)))
      else
      (idx x1.1 x1.2.2).bind fun e8 =>
      bif (e8.result.n != (w64 ((w64 ((w64 ((w64 ((w64 (x1.2.1 + 1)) + 1)) + 1)) + 1)) + 1))) then
        some (.inr ((-1)))
      else
      (idx x1.1 x1.2.2).bind fun e9 =>
      bif (e9.result.step != (w64 ((w64 ((w64 ((w64 ((w64 ((w64 (x1.2.1 + 1)) + 1)) + 1)) + 1)) + 1)) + 1))) then
        some (.inr ((-1)))
      else
      (idx x1.1 x1.2.2).bind fun e10 =>
      (markText (w64 ((w64 ((w64 ((w64 ((w64 ((w64 ((w64 (x1.2.1 + 1)) + 1)) + 1)) + 1)) + 1)) + 1)) + 1))).bind fun r11 =>
      bif (!(e10.result.text == r11)) then
        some (.inr ((-1)))
      else
      (idx x1.1 x1.2.2).bind fun e12 =>
      (heldValueS e12.result.list (w64 ((w64 ((w64 ((w64 ((w64 ((w64 ((w64 ((w64 (x1.2.1 + 1)) + 1)) + 1)) + 1)) + 1)) + 1)) + 1)) + 1))).bind fun r13 =>
      bif (decide (r13 < 0)) then
        some (.inr ((-1)))
      else
      (idx x1.1 x1.2.2).bind fun e14 =>
      (heldStringS e14.result.columns r13).bind fun r15 =>
      bif (decide (r15 < 0)) then
        some (.inr ((-1)))
      else
        (idx x1.1 x1.2.2).bind fun e16 =>
        (heldRowS e16.result.rows r15).bind fun r17 =>
        bif (decide (r17 < 0)) then
          some (.inr ((-1)))
        else
          some (.inl (x1.1, r17, w64 (x1.2.2 + 1)))
    else
      some (.inr (x1.2.1))
  ) (a, b, 0)
noncomputable def heldReadSFS : Fsp := { fid := 106, ps := [⟨false, .list (.base .read)⟩, ⟨false, .base .int⟩], rs := [⟨false, .base .int⟩], ex := true, fn := fun x => heldReadS x.1 x.2 }
noncomputable def heldOpS (a : List GOp) (b : Int) : Option (Int) :=
  loopD (fun (x1 : (List GOp) × Int × Int) =>
    bif (decide (x1.2.2 < (x1.1.length : Int))) then
      (idx x1.1 x1.2.2).bind fun e2 =>
      bif (e2.time != x1.2.1) then
        some (.inr ((-1)))
      else
      (idx x1.1 x1.2.2).bind fun e3 =>
      bif (e3.by_ != (w64 (x1.2.1 + 1))) then
        some (.inr ((-1)))
      else
      (idx x1.1 x1.2.2).bind fun e4 =>
      bif (e4.kind != (w64 ((w64 (x1.2.1 + 1)) + 1))) then
        some (.inr ((-1)))
      else
      (idx x1.1 x1.2.2).bind fun e5 =>
      (heldIntS e5.seen (w64 ((w64 ((w64 (x1.2.1 + 1)) + 1)) + 1))).bind fun r6 =>
      bif (decide (r6 < 0)) then
        some (.inr ((-1)))
      else
      (idx x1.1 x1.2.2).bind fun e7 =>
      bif (e7.edit.kind != r6) then
        some (.inr ((-1)))
      else
      (idx x1.1 x1.2.2).bind fun e8 =>
      bif (e8.edit.pos != (w64 (r6 + 1))) then
        some (.inr ((-1)))
      else
      (idx x1.1 x1.2.2).bind fun e9 =>
      bif (e9.edit.cell.id != (w64 ((w64 (r6 + 1)) + 1))) then
        some (.inr ((-1)))
      else
      (idx x1.1 x1.2.2).bind fun e10 =>
      bif (e10.edit.cell.version != (w64 ((w64 ((w64 (r6 + 1)) + 1)) + 1))) then
        some (.inr ((-1)))
      else
      (idx x1.1 x1.2.2).bind fun e11 =>
      bif (e11.edit.cell.kind != (w64 ((w64 ((w64 ((w64 (r6 + 1)) + 1)) + 1)) + 1))) then
        some (.inr ((-1)))
      else
      (idx x1.1 x1.2.2).bind fun e12 =>
      (markText (w64 ((w64 ((w64 ((w64 ((w64 (r6 + 1)) + 1)) + 1)) + 1)) + 1))).bind fun r13 =>
      bif (!(e12.edit.cell.name == r13)) then
        some (.inr ((-1)))
      else
      (idx x1.1 x1.2.2).bind fun e14 =>
      (markText (w64 ((w64 ((w64 ((w64 ((w64 ((w64 (r6 + 1)) + 1)) + 1)) + 1)) + 1)) + 1))).bind fun r15 =>
      bif (!(e14.edit.cell.code == r15)) then
        some (.inr ((-1)))
      else
      (idx x1.1 x1.2.2).bind fun e16 =>
      bif (e16.edit.cell.n != (w64 ((w64 ((w64 ((w64 ((w64 ((w64 ((w64 (r6 + 1)) + 1)) + 1)) + 1)) + 1)) + 1)) + 1))) then
        some (.inr ((-1)))
      else
      (idx x1.1 x1.2.2).bind fun e17 =>
      (markText (w64 ((w64 ((w64 ((w64 ((w64 ((w64 ((w64 ((w64 (r6 + 1)) + 1)) + 1)) + 1)) + 1)) + 1)) + 1)) + 1))).bind fun r18 =>
      bif (!(e17.src == r18)) then
        some (.inr ((-1)))
      else
      (idx x1.1 x1.2.2).bind fun e19 =>
      (markText (w64 ((w64 ((w64 ((w64 ((w64 ((w64 ((w64 ((w64 ((w64 (r6 + 1)) + 1)) + 1)) + 1)) + 1)) + 1)) + 1)) + 1)) + 1))).bind fun r20 =>
      bif (!(e19.dst == r20)) then
        some (.inr ((-1)))
      else
      (idx x1.1 x1.2.2).bind fun e21 =>
      bif (e21.cell != (w64 ((w64 ((w64 ((w64 ((w64 ((w64 ((w64 ((w64 ((w64 ((w64 (r6 + 1)) + 1)) + 1)) + 1)) + 1)) + 1)) + 1)) + 1)) + 1)) + 1))) then
        some (.inr ((-1)))
      else
      (idx x1.1 x1.2.2).bind fun e22 =>
      bif (e22.version != (w64 ((w64 ((w64 ((w64 ((w64 ((w64 ((w64 ((w64 ((w64 ((w64 ((w64 (r6 + 1)) + 1)) + 1)) + 1)) + 1)) + 1)) + 1)) + 1)) + 1)) + 1)) + 1))) then
        some (.inr ((-1)))
      else
        (idx x1.1 x1.2.2).bind fun e23 =>
        (heldReadS e23.reads (w64 ((w64 ((w64 ((w64 ((w64 ((w64 ((w64 ((w64 ((w64 ((w64 ((w64 ((w64 (r6 + 1)) + 1)) + 1)) + 1)) + 1)) + 1)) + 1)) + 1)) + 1)) + 1)) + 1)) + 1))).bind fun r24 =>
        bif (decide (r24 < 0)) then
          some (.inr ((-1)))
        else
          some (.inl (x1.1, r24, w64 (x1.2.2 + 1)))
    else
      some (.inr (x1.2.1))
  ) (a, b, 0)
noncomputable def heldOpSFS : Fsp := { fid := 47, ps := [⟨false, .list (.base .op)⟩, ⟨false, .base .int⟩], rs := [⟨false, .base .int⟩], ex := true, fn := fun x => heldOpS x.1 x.2 }
noncomputable def FnExactMissingOps (a : GReplica) (b : List Int) : Option (Bool) :=
  bif (decide ((b.length : Int) > 1048576)) then
    some (true)
  else
  (szReplica a 1048576).bind fun r1 =>
  bif (decide (r1 < 0)) then
    some (true)
  else
  (toReplica a).bind fun r2 =>
  (toIntS b).bind fun r3 =>
  (sMissingOps r2 r3).bind fun r4 =>
  (toReplica a).bind fun r5 =>
  (toIntS b).bind fun r6 =>
  (iMissingOps r5 r6).bind fun r7 =>
  (eqOpS r7 r4).bind fun r8 =>
  bif (!r8) then
    some (false)
  else
  (toReplica a).bind fun r9 =>
  (eqReplica r5 r9).bind fun r10 =>
  bif (!r10) then
    some (false)
  else
  (toIntS b).bind fun r11 =>
  (eqIntS r6 r11).bind fun r12 =>
  bif (!r12) then
    some (false)
  else
  (markReplica r5 1).bind fun r13 =>
  (markIntS r6 r13.2).bind fun r14 =>
  bif (decide (r14.2 < 0)) then
    some (false)
  else
  (eqOpS r7 r4).bind fun r15 =>
  bif (!r15) then
    some (false)
  else
  (markOpS r7 1).bind fun r16 =>
  (heldOpS r16.1 1).bind fun r17 =>
  bif (decide (r17 < 0)) then
    some (false)
  else
  bif (r17 != r16.2) then
    some (false)
  else
  (toReplica a).bind fun r18 =>
  (toIntS b).bind fun r19 =>
  (iMissingOps r18 r19).bind fun r20 =>
  (eqOpS r20 r4).bind fun r21 =>
  bif (!r21) then
    some (false)
  else
    (heldOpS r16.1 1).bind fun r22 =>
    bif (decide (r22 < 0)) then
      some (false)
    else
      bif (r22 != r16.2) then
        some (false)
      else
        some (true)
noncomputable def FnExactMissingOpsFS : Fsp := { fid := 8, ps := [⟨true, .base .replica⟩, ⟨false, .list (.base .int)⟩], rs := [⟨false, .base .bool⟩], ex := true, fn := fun x => FnExactMissingOps x.1 x.2 }
noncomputable def sLastTime (a : List GOp) : Option (Int) :=
  loopD (fun (x1 : (List GOp) × Int × Int) =>
    bif (decide (x1.2.2 < (x1.1.length : Int))) then
      (idx x1.1 x1.2.2).bind fun e2 =>
      (sL1Max x1.2.1 e2.time).bind fun r3 =>
      some (.inl (x1.1, r3, w64 (x1.2.2 + 1)))
    else
      some (.inr (x1.2.1))
  ) (a, 0, 0)
noncomputable def sLastTimeFS : Fsp := { fid := 123, ps := [⟨false, .list (.base .op)⟩], rs := [⟨false, .base .int⟩], ex := true, fn := fun x => sLastTime x }
noncomputable def sSeenBy (a : GReplica) : Option ((List Int)) :=
  loopD (fun (x1 : Int × (List GOp) × (List Int) × Int) =>
    bif (decide (x1.2.2.2 < 3)) then
      (sCountBy x1.2.1 x1.2.2.2).bind fun r2 =>
      (gd (x1.2.2.1.length + [r2].length)).bind fun _ =>
      some (.inl (x1.1, x1.2.1, x1.2.2.1 ++ [r2], w64 (x1.2.2.2 + 1)))
    else
      some (.inr (x1.2.2.1))
  ) (a.id, a.ops, [], 0)
noncomputable def sSeenByFS : Fsp := { fid := 124, ps := [⟨true, .base .replica⟩], rs := [⟨false, .list (.base .int)⟩], ex := true, fn := fun x => sSeenBy x }
noncomputable def sL41Ops (a : List GOp) : Option ((List GOp)) :=
  loopD (fun (x1 : (List GOp) × (List GOp) × Int) =>
    bif (decide (x1.2.2 < (x1.1.length : Int))) then
      (idx x1.1 x1.2.2).bind fun e2 =>
      (sL41Copy e2).bind fun r3 =>
      (gd (x1.2.1.length + [r3].length)).bind fun _ =>
      some (.inl (x1.1, x1.2.1 ++ [r3], w64 (x1.2.2 + 1)))
    else
      some (.inr (x1.2.1))
  ) (a, [], 0)
noncomputable def sL41OpsFS : Fsp := { fid := 172, ps := [⟨false, .list (.base .op)⟩], rs := [⟨false, .list (.base .op)⟩], ex := true, fn := fun x => sL41Ops x }
noncomputable def sL43Copy (a : GReplica) : Option (GReplica) :=
  (sL41Ops a.ops).bind fun r1 =>
  some (GReplica.mk a.id r1)
noncomputable def sL43CopyFS : Fsp := { fid := 125, ps := [⟨true, .base .replica⟩], rs := [⟨true, .base .replica⟩], ex := true, fn := fun x => sL43Copy x }
noncomputable def sOpBefore (a : GOp) (b : GOp) : Option (Bool) :=
  bif (decide (a.time < b.time)) then
    some (true)
  else
    bif (a.time == b.time) then
      some ((decide (a.by_ < b.by_)))
    else
      some (false)
noncomputable def sOpBeforeFS : Fsp := { fid := 134, ps := [⟨true, .base .op⟩, ⟨true, .base .op⟩], rs := [⟨false, .base .bool⟩], ex := true, fn := fun x => sOpBefore x.1 x.2 }
noncomputable def sL41Seen (a : List Int) : Option (Bool) :=
  loopD (fun (x1 : (List Int) × Int) =>
    bif (decide (x1.2 < (x1.1.length : Int))) then
      (idx x1.1 x1.2).bind fun e2 =>
      (sL1In e2 0 60).bind fun r3 =>
      bif (!r3) then
        some (.inr (false))
      else
        some (.inl (x1.1, w64 (x1.2 + 1)))
    else
      some (.inr (((x1.1.length : Int) == 3)))
  ) (a, 0)
noncomputable def sL41SeenFS : Fsp := { fid := 222, ps := [⟨false, .list (.base .int)⟩], rs := [⟨false, .base .bool⟩], ex := true, fn := fun x => sL41Seen x }
noncomputable def sIsValidOp (a : GOp) : Option (Bool) :=
  (sL1In a.time 1 300).bind fun r1 =>
  bif (!r1) then
    some (false)
  else
  (sL1In a.by_ 0 2).bind fun r2 =>
  bif (!r2) then
    some (false)
  else
  (sL41Seen a.seen).bind fun r3 =>
  bif (!r3) then
    some (false)
  else
  (sL1In a.kind 1 3).bind fun r4 =>
  bif (!r4) then
    some (false)
  else
  bif (a.src == []) then
    bif (a.cell == 0) then
      bif (a.version == 0) then
        bif (a.kind == 1) then
          bif (a.dst == []) then
            some (((a.reads.length : Int) == 0))
          else
            some (false)
        else
          bif (a.kind == 2) then
            bif ((a.edit.kind == 0) && ((a.edit.pos == 0) && ((a.edit.cell.id == 0) && ((a.edit.cell.version == 0) && ((a.edit.cell.kind == 0) && ((a.edit.cell.name == []) && ((a.edit.cell.code == []) && (a.edit.cell.n == 0)))))))) then
              some (((a.reads.length : Int) == 0))
            else
              some (false)
          else
            bif ((a.edit.kind == 0) && ((a.edit.pos == 0) && ((a.edit.cell.id == 0) && ((a.edit.cell.version == 0) && ((a.edit.cell.kind == 0) && ((a.edit.cell.name == []) && ((a.edit.cell.code == []) && (a.edit.cell.n == 0)))))))) then
              some ((a.dst == []))
            else
              some (false)
      else
      bif (a.kind == 1) then
        bif (a.dst == []) then
          some (false)
        else
          some (false)
      else
        bif (a.kind == 2) then
          bif ((a.edit.kind == 0) && ((a.edit.pos == 0) && ((a.edit.cell.id == 0) && ((a.edit.cell.version == 0) && ((a.edit.cell.kind == 0) && ((a.edit.cell.name == []) && ((a.edit.cell.code == []) && (a.edit.cell.n == 0)))))))) then
            some (false)
          else
            some (false)
        else
          bif ((a.edit.kind == 0) && ((a.edit.pos == 0) && ((a.edit.cell.id == 0) && ((a.edit.cell.version == 0) && ((a.edit.cell.kind == 0) && ((a.edit.cell.name == []) && ((a.edit.cell.code == []) && (a.edit.cell.n == 0)))))))) then
            some ((a.dst == []))
          else
            some (false)
    else
    bif (a.kind == 1) then
      bif (a.dst == []) then
        some (false)
      else
        some (false)
    else
      bif (a.kind == 2) then
        bif ((a.edit.kind == 0) && ((a.edit.pos == 0) && ((a.edit.cell.id == 0) && ((a.edit.cell.version == 0) && ((a.edit.cell.kind == 0) && ((a.edit.cell.name == []) && ((a.edit.cell.code == []) && (a.edit.cell.n == 0)))))))) then
          some (false)
        else
          some (false)
      else
        bif ((a.edit.kind == 0) && ((a.edit.pos == 0) && ((a.edit.cell.id == 0) && ((a.edit.cell.version == 0) && ((a.edit.cell.kind == 0) && ((a.edit.cell.name == []) && ((a.edit.cell.code == []) && (a.edit.cell.n == 0)))))))) then
          some ((a.dst == []))
        else
          some (false)
  else
  bif (a.cell == 0) then
    bif (a.version == 0) then
      bif (a.kind == 1) then
        some (false)
      else
        bif (a.kind == 2) then
          bif ((a.edit.kind == 0) && ((a.edit.pos == 0) && ((a.edit.cell.id == 0) && ((a.edit.cell.version == 0) && ((a.edit.cell.kind == 0) && ((a.edit.cell.name == []) && ((a.edit.cell.code == []) && (a.edit.cell.n == 0)))))))) then
            some (((a.reads.length : Int) == 0))
          else
            some (false)
        else
          bif ((a.edit.kind == 0) && ((a.edit.pos == 0) && ((a.edit.cell.id == 0) && ((a.edit.cell.version == 0) && ((a.edit.cell.kind == 0) && ((a.edit.cell.name == []) && ((a.edit.cell.code == []) && (a.edit.cell.n == 0)))))))) then
            some (false)
          else
            some (false)
    else
    bif (a.kind == 1) then
      some (false)
    else
      bif (a.kind == 2) then
        bif ((a.edit.kind == 0) && ((a.edit.pos == 0) && ((a.edit.cell.id == 0) && ((a.edit.cell.version == 0) && ((a.edit.cell.kind == 0) && ((a.edit.cell.name == []) && ((a.edit.cell.code == []) && (a.edit.cell.n == 0)))))))) then
          some (false)
        else
          some (false)
      else
        bif ((a.edit.kind == 0) && ((a.edit.pos == 0) && ((a.edit.cell.id == 0) && ((a.edit.cell.version == 0) && ((a.edit.cell.kind == 0) && ((a.edit.cell.name == []) && ((a.edit.cell.code == []) && (a.edit.cell.n == 0)))))))) then
          some (false)
        else
          some (false)
  else
  bif (a.kind == 1) then
    some (false)
  else
    bif (a.kind == 2) then
      bif ((a.edit.kind == 0) && ((a.edit.pos == 0) && ((a.edit.cell.id == 0) && ((a.edit.cell.version == 0) && ((a.edit.cell.kind == 0) && ((a.edit.cell.name == []) && ((a.edit.cell.code == []) && (a.edit.cell.n == 0)))))))) then
        some (false)
      else
        some (false)
    else
      bif ((a.edit.kind == 0) && ((a.edit.pos == 0) && ((a.edit.cell.id == 0) && ((a.edit.cell.version == 0) && ((a.edit.cell.kind == 0) && ((a.edit.cell.name == []) && ((a.edit.cell.code == []) && (a.edit.cell.n == 0)))))))) then
        some (false)
      else
        some (false)
noncomputable def sIsValidOpFS : Fsp := { fid := 195, ps := [⟨true, .base .op⟩], rs := [⟨false, .base .bool⟩], ex := true, fn := fun x => sIsValidOp x }
noncomputable def sIsValidLog (a : List GOp) : Option (Bool) :=
  loopD (fun (x1 : (List GOp) × Int) =>
    bif (decide (x1.2 < (x1.1.length : Int))) then
      (idx x1.1 x1.2).bind fun e2 =>
      (sIsValidOp e2).bind fun r3 =>
      bif (!r3) then
        some (.inr (false))
      else
      bif (decide (x1.2 > 0)) then
        (idx x1.1 (w64 (x1.2 - 1))).bind fun e4 =>
        (idx x1.1 x1.2).bind fun e5 =>
        (sOpBefore e4 e5).bind fun r6 =>
        bif (!r6) then
          some (.inr (false))
        else
          some (.inl (x1.1, w64 (x1.2 + 1)))
      else
        some (.inl (x1.1, w64 (x1.2 + 1)))
    else
      some (.inr ((decide ((x1.1.length : Int) ≤ 60))))
  ) (a, 0)
noncomputable def sIsValidLogFS : Fsp := { fid := 173, ps := [⟨false, .list (.base .op)⟩], rs := [⟨false, .base .bool⟩], ex := true, fn := fun x => sIsValidLog x }
noncomputable def sIsValidReplica (a : GReplica) : Option (Bool) :=
  (sL1In a.id 0 2).bind fun r1 =>
  bif r1 then
    (sIsValidLog a.ops).bind fun r2 =>
    some (r2)
  else
    some (false)
noncomputable def sIsValidReplicaFS : Fsp := { fid := 126, ps := [⟨true, .base .replica⟩], rs := [⟨false, .base .bool⟩], ex := true, fn := fun x => sIsValidReplica x }
noncomputable def sAddOp (a : GReplica) (b : GOp) : Option (GReplica × Bool) :=
  (sL41Copy b).bind fun r1 =>
  (sLastTime a.ops).bind fun r2 =>
  (sSeenBy a).bind fun r3 =>
  (sL43Copy a).bind fun r4 =>
  (gd (r4.ops.length + [GOp.mk (w64 (r2 + 1)) a.id r1.kind r3 r1.edit r1.src r1.dst r1.cell r1.version r1.reads].length)).bind fun _ =>
  (sIsValidReplica a).bind fun r5 =>
  bif (!r5) then
    (sL43Copy a).bind fun r6 =>
    some (r6, false)
  else
    (sIsValidReplica (GReplica.mk r4.id (r4.ops ++ [GOp.mk (w64 (r2 + 1)) a.id r1.kind r3 r1.edit r1.src r1.dst r1.cell r1.version r1.reads]))).bind fun r7 =>
    bif (!r7) then
      (sL43Copy a).bind fun r8 =>
      some (r8, false)
    else
      some (GReplica.mk r4.id (r4.ops ++ [GOp.mk (w64 (r2 + 1)) a.id r1.kind r3 r1.edit r1.src r1.dst r1.cell r1.version r1.reads]), true)
noncomputable def sAddOpFS : Fsp := { fid := 56, ps := [⟨true, .base .replica⟩, ⟨true, .base .op⟩], rs := [⟨true, .base .replica⟩, ⟨false, .base .bool⟩], ex := true, fn := fun x => sAddOp x.1 x.2 }
noncomputable def iCopyOps (a : List GOp) : Option ((List GOp)) :=
  loopD (fun (x1 : (List GOp) × (List GOp) × Int × Int) =>
    bif (decide (x1.2.2.2 < x1.2.2.1)) then
      (idx x1.2.1 x1.2.2.2).bind fun e2 =>
      (iCopyOp e2).bind fun r3 =>
      (gd (x1.1.length + [r3].length)).bind fun _ =>
      some (.inl (x1.1 ++ [r3], x1.2.1, x1.2.2.1, w64 (x1.2.2.2 + 1)))
    else
      some (.inr (x1.1))
  ) ([], a, (a.length : Int), 0)
noncomputable def iCopyOpsFS : Fsp := { fid := 175, ps := [⟨false, .list (.base .op)⟩], rs := [⟨false, .list (.base .op)⟩], ex := true, fn := fun x => iCopyOps x }
noncomputable def iCopyReplica (a : GReplica) : Option (GReplica) :=
  (iCopyOps a.ops).bind fun r1 =>
  some (GReplica.mk a.id r1)
noncomputable def iCopyReplicaFS : Fsp := { fid := 128, ps := [⟨true, .base .replica⟩], rs := [⟨true, .base .replica⟩], ex := true, fn := fun x => iCopyReplica x }
noncomputable def iOpBefore (a : GOp) (b : GOp) : Option (Bool) :=
  bif (decide (a.time < b.time)) then
    some (true)
  else
    bif (a.time == b.time) then
      some ((decide (a.by_ < b.by_)))
    else
      some (false)
noncomputable def iOpBeforeFS : Fsp := { fid := 137, ps := [⟨true, .base .op⟩, ⟨true, .base .op⟩], rs := [⟨false, .base .bool⟩], ex := true, fn := fun x => iOpBefore x.1 x.2 }
noncomputable def iIsValidOp (a : GOp) : Option (Bool) :=
  (iWithin a.time 1 300).bind fun r1 =>
  bif (!r1) then
    some (false)
  else
  (iWithin a.by_ 0 2).bind fun r2 =>
  bif (!r2) then
    some (false)
  else
  bif ((a.seen.length : Int) != 3) then
    some (false)
  else
  loopD (fun (x3 : Int × Int × Int × (List Int) × Int × Int × Int × Int × Int × Str × Str × Int × Str × Str × Int × Int × (List GRead) × (List Int) × Int × Int) =>
    bif (decide (x3.2.2.2.2.2.2.2.2.2.2.2.2.2.2.2.2.2.2.2 < x3.2.2.2.2.2.2.2.2.2.2.2.2.2.2.2.2.2.2.1)) then
      (idx x3.2.2.2.2.2.2.2.2.2.2.2.2.2.2.2.2.2.1 x3.2.2.2.2.2.2.2.2.2.2.2.2.2.2.2.2.2.2.2).bind fun e4 =>
      (iWithin e4 0 60).bind fun r5 =>
      bif (!r5) then
        some (.inr (false))
      else
        some (.inl (x3.1, x3.2.1, x3.2.2.1, x3.2.2.2.1, x3.2.2.2.2.1, x3.2.2.2.2.2.1, x3.2.2.2.2.2.2.1, x3.2.2.2.2.2.2.2.1, x3.2.2.2.2.2.2.2.2.1, x3.2.2.2.2.2.2.2.2.2.1, x3.2.2.2.2.2.2.2.2.2.2.1, x3.2.2.2.2.2.2.2.2.2.2.2.1, x3.2.2.2.2.2.2.2.2.2.2.2.2.1, x3.2.2.2.2.2.2.2.2.2.2.2.2.2.1, x3.2.2.2.2.2.2.2.2.2.2.2.2.2.2.1, x3.2.2.2.2.2.2.2.2.2.2.2.2.2.2.2.1, x3.2.2.2.2.2.2.2.2.2.2.2.2.2.2.2.2.1, x3.2.2.2.2.2.2.2.2.2.2.2.2.2.2.2.2.2.1, x3.2.2.2.2.2.2.2.2.2.2.2.2.2.2.2.2.2.2.1, w64 (x3.2.2.2.2.2.2.2.2.2.2.2.2.2.2.2.2.2.2.2 + 1)))
    else
    (
      bif (x3.2.2.2.2.2.2.2.2.2.2.2.2.1 == []) then
        bif (x3.2.2.2.2.2.2.2.2.2.2.2.2.2.2.1 == 0) then
          bif (x3.2.2.2.2.2.2.2.2.2.2.2.2.2.2.2.1 == 0) then
            bif (x3.2.2.1 == 1) then
              bif (x3.2.2.2.2.2.2.2.2.2.2.2.2.2.1 == []) then
                some (((x3.2.2.2.2.2.2.2.2.2.2.2.2.2.2.2.2.1.length : Int) == 0))
              else
                some (false)
            else
            bif (x3.2.2.1 == 2) then
              bif ((x3.2.2.2.2.1 == 0) && ((x3.2.2.2.2.2.1 == 0) && ((x3.2.2.2.2.2.2.1 == 0) && ((x3.2.2.2.2.2.2.2.1 == 0) && ((x3.2.2.2.2.2.2.2.2.1 == 0) && ((x3.2.2.2.2.2.2.2.2.2.1 == []) && ((x3.2.2.2.2.2.2.2.2.2.2.1 == []) && (x3.2.2.2.2.2.2.2.2.2.2.2.1 == 0)))))))) then
                some (((x3.2.2.2.2.2.2.2.2.2.2.2.2.2.2.2.2.1.length : Int) == 0))
              else
                some (false)
            else
              bif (x3.2.2.1 == 3) then
                bif ((x3.2.2.2.2.1 == 0) && ((x3.2.2.2.2.2.1 == 0) && ((x3.2.2.2.2.2.2.1 == 0) && ((x3.2.2.2.2.2.2.2.1 == 0) && ((x3.2.2.2.2.2.2.2.2.1 == 0) && ((x3.2.2.2.2.2.2.2.2.2.1 == []) && ((x3.2.2.2.2.2.2.2.2.2.2.1 == []) && (x3.2.2.2.2.2.2.2.2.2.2.2.1 == 0)))))))) then
                  some ((x3.2.2.2.2.2.2.2.2.2.2.2.2.2.1 == []))
                else
                  some (false)
              else
                some (false)
          else
          bif (x3.2.2.1 == 1) then
            bif (x3.2.2.2.2.2.2.2.2.2.2.2.2.2.1 == []) then
              some (false)
            else
              some (false)
          else
          bif (x3.2.2.1 == 2) then
            bif ((x3.2.2.2.2.1 == 0) && ((x3.2.2.2.2.2.1 == 0) && ((x3.2.2.2.2.2.2.1 == 0) && ((x3.2.2.2.2.2.2.2.1 == 0) && ((x3.2.2.2.2.2.2.2.2.1 == 0) && ((x3.2.2.2.2.2.2.2.2.2.1 == []) && ((x3.2.2.2.2.2.2.2.2.2.2.1 == []) && (x3.2.2.2.2.2.2.2.2.2.2.2.1 == 0)))))))) then
              some (false)
            else
              some (false)
          else
            bif (x3.2.2.1 == 3) then
              bif ((x3.2.2.2.2.1 == 0) && ((x3.2.2.2.2.2.1 == 0) && ((x3.2.2.2.2.2.2.1 == 0) && ((x3.2.2.2.2.2.2.2.1 == 0) && ((x3.2.2.2.2.2.2.2.2.1 == 0) && ((x3.2.2.2.2.2.2.2.2.2.1 == []) && ((x3.2.2.2.2.2.2.2.2.2.2.1 == []) && (x3.2.2.2.2.2.2.2.2.2.2.2.1 == 0)))))))) then
                some ((x3.2.2.2.2.2.2.2.2.2.2.2.2.2.1 == []))
              else
                some (false)
            else
              some (false)
        else
        bif (x3.2.2.1 == 1) then
          bif (x3.2.2.2.2.2.2.2.2.2.2.2.2.2.1 == []) then
            some (false)
          else
            some (false)
        else
        bif (x3.2.2.1 == 2) then
          bif ((x3.2.2.2.2.1 == 0) && ((x3.2.2.2.2.2.1 == 0) && ((x3.2.2.2.2.2.2.1 == 0) && ((x3.2.2.2.2.2.2.2.1 == 0) && ((x3.2.2.2.2.2.2.2.2.1 == 0) && ((x3.2.2.2.2.2.2.2.2.2.1 == []) && ((x3.2.2.2.2.2.2.2.2.2.2.1 == []) && (x3.2.2.2.2.2.2.2.2.2.2.2.1 == 0)))))))) then
            some (false)
          else
            some (false)
        else
          bif (x3.2.2.1 == 3) then
            bif ((x3.2.2.2.2.1 == 0) && ((x3.2.2.2.2.2.1 == 0) && ((x3.2.2.2.2.2.2.1 == 0) && ((x3.2.2.2.2.2.2.2.1 == 0) && ((x3.2.2.2.2.2.2.2.2.1 == 0) && ((x3.2.2.2.2.2.2.2.2.2.1 == []) && ((x3.2.2.2.2.2.2.2.2.2.2.1 == []) && (x3.2.2.2.2.2.2.2.2.2.2.2.1 == 0)))))))) then
              some ((x3.2.2.2.2.2.2.2.2.2.2.2.2.2.1 == []))
            else
              some (false)
          else
            some (false)
      else
      bif (x3.2.2.2.2.2.2.2.2.2.2.2.2.2.2.1 == 0) then
        bif (x3.2.2.2.2.2.2.2.2.2.2.2.2.2.2.2.1 == 0) then
          bif (x3.2.2.1 == 1) then
            some (false)
          else
          bif (x3.2.2.1 == 2) then
            bif ((x3.2.2.2.2.1 == 0) && ((x3.2.2.2.2.2.1 == 0) && ((x3.2.2.2.2.2.2.1 == 0) && ((x3.2.2.2.2.2.2.2.1 == 0) && ((x3.2.2.2.2.2.2.2.2.1 == 0) && ((x3.2.2.2.2.2.2.2.2.2.1 == []) && ((x3.2.2.2.2.2.2.2.2.2.2.1 == []) && (x3.2.2.2.2.2.2.2.2.2.2.2.1 == 0)))))))) then
              some (((x3.2.2.2.2.2.2.2.2.2.2.2.2.2.2.2.2.1.length : Int) == 0))
            else
              some (false)
          else
            bif (x3.2.2.1 == 3) then
              bif ((x3.2.2.2.2.1 == 0) && ((x3.2.2.2.2.2.1 == 0) && ((x3.2.2.2.2.2.2.1 == 0) && ((x3.2.2.2.2.2.2.2.1 == 0) && ((x3.2.2.2.2.2.2.2.2.1 == 0) && ((x3.2.2.2.2.2.2.2.2.2.1 == []) && ((x3.2.2.2.2.2.2.2.2.2.2.1 == []) && (x3.2.2.2.2.2.2.2.2.2.2.2.1 == 0)))))))) then
                some (false)
              else
                some (false)
            else
              some (false)
        else
        bif (x3.2.2.1 == 1) then
          some (false)
        else
        bif (x3.2.2.1 == 2) then
          bif ((x3.2.2.2.2.1 == 0) && ((x3.2.2.2.2.2.1 == 0) && ((x3.2.2.2.2.2.2.1 == 0) && ((x3.2.2.2.2.2.2.2.1 == 0) && ((x3.2.2.2.2.2.2.2.2.1 == 0) && ((x3.2.2.2.2.2.2.2.2.2.1 == []) && ((x3.2.2.2.2.2.2.2.2.2.2.1 == []) && (x3.2.2.2.2.2.2.2.2.2.2.2.1 == 0)))))))) then
            some (false)
          else
            some (false)
        else
          bif (x3.2.2.1 == 3) then
            bif ((x3.2.2.2.2.1 == 0) && ((x3.2.2.2.2.2.1 == 0) && ((x3.2.2.2.2.2.2.1 == 0) && ((x3.2.2.2.2.2.2.2.1 == 0) && ((x3.2.2.2.2.2.2.2.2.1 == 0) && ((x3.2.2.2.2.2.2.2.2.2.1 == []) && ((x3.2.2.2.2.2.2.2.2.2.2.1 == []) && (x3.2.2.2.2.2.2.2.2.2.2.2.1 == 0)))))))) then
              some (false)
            else
              some (false)
          else
            some (false)
      else
      bif (x3.2.2.1 == 1) then
        some (false)
      else
      bif (x3.2.2.1 == 2) then
        bif ((x3.2.2.2.2.1 == 0) && ((x3.2.2.2.2.2.1 == 0) && ((x3.2.2.2.2.2.2.1 == 0) && ((x3.2.2.2.2.2.2.2.1 == 0) && ((x3.2.2.2.2.2.2.2.2.1 == 0) && ((x3.2.2.2.2.2.2.2.2.2.1 == []) && ((x3.2.2.2.2.2.2.2.2.2.2.1 == []) && (x3.2.2.2.2.2.2.2.2.2.2.2.1 == 0)))))))) then
          some (false)
        else
          some (false)
      else
        bif (x3.2.2.1 == 3) then
          bif ((x3.2.2.2.2.1 == 0) && ((x3.2.2.2.2.2.1 == 0) && ((x3.2.2.2.2.2.2.1 == 0) && ((x3.2.2.2.2.2.2.2.1 == 0) && ((x3.2.2.2.2.2.2.2.2.1 == 0) && ((x3.2.2.2.2.2.2.2.2.2.1 == []) && ((x3.2.2.2.2.2.2.2.2.2.2.1 == []) && (x3.2.2.2.2.2.2.2.2.2.2.2.1 == 0)))))))) then
            some (false)
          else
            some (false)
        else
          some (false)
    ).bind fun r => some (.inr r)
  ) (a.time, a.by_, a.kind, a.seen, a.edit.kind, a.edit.pos, a.edit.cell.id, a.edit.cell.version, a.edit.cell.kind, a.edit.cell.name, a.edit.cell.code, a.edit.cell.n, a.src, a.dst, a.cell, a.version, a.reads, a.seen, (a.seen.length : Int), 0)
noncomputable def iIsValidOpFS : Fsp := { fid := 197, ps := [⟨true, .base .op⟩], rs := [⟨false, .base .bool⟩], ex := true, fn := fun x => iIsValidOp x }
noncomputable def iIsValidLog (a : List GOp) : Option (Bool) :=
  loopD (fun (x1 : (List GOp) × (List GOp) × Int × Int) =>
    bif (decide (x1.2.2.2 < x1.2.2.1)) then
      (idx x1.2.1 x1.2.2.2).bind fun e2 =>
      (iIsValidOp e2).bind fun r3 =>
      bif (!r3) then
        some (.inr (false))
      else
        bif (decide (x1.2.2.2 > 0)) then
          (idx x1.1 (w64 (x1.2.2.2 - 1))).bind fun e4 =>
          (iOpBefore e4 e2).bind fun r5 =>
          bif (!r5) then
            some (.inr (false))
          else
            some (.inl (x1.1, x1.2.1, x1.2.2.1, w64 (x1.2.2.2 + 1)))
        else
          some (.inl (x1.1, x1.2.1, x1.2.2.1, w64 (x1.2.2.2 + 1)))
    else
      some (.inr ((decide ((x1.1.length : Int) ≤ 60))))
  ) (a, a, (a.length : Int), 0)
noncomputable def iIsValidLogFS : Fsp := { fid := 176, ps := [⟨false, .list (.base .op)⟩], rs := [⟨false, .base .bool⟩], ex := true, fn := fun x => iIsValidLog x }
noncomputable def iIsValidReplica (a : GReplica) : Option (Bool) :=
  (iWithin a.id 0 2).bind fun r1 =>
  bif r1 then
    (iIsValidLog a.ops).bind fun r2 =>
    some (r2)
  else
    some (false)
noncomputable def iIsValidReplicaFS : Fsp := { fid := 129, ps := [⟨true, .base .replica⟩], rs := [⟨false, .base .bool⟩], ex := true, fn := fun x => iIsValidReplica x }
noncomputable def iLastTime (a : List GOp) : Option (Int) :=
  loopD (fun (x1 : Int × (List GOp) × Int × Int) =>
    bif (decide (x1.2.2.2 < x1.2.2.1)) then
      (idx x1.2.1 x1.2.2.2).bind fun e2 =>
      some (.inl ((if e2.time > x1.1 then e2.time else x1.1), x1.2.1, x1.2.2.1, w64 (x1.2.2.2 + 1)))
    else
      some (.inr (x1.1))
  ) (0, a, (a.length : Int), 0)
noncomputable def iLastTimeFS : Fsp := { fid := 130, ps := [⟨false, .list (.base .op)⟩], rs := [⟨false, .base .int⟩], ex := true, fn := fun x => iLastTime x }
noncomputable def iSeenBy (a : GReplica) : Option ((List Int)) :=
  loopD (fun (x1 : Int × (List GOp) × (List Int) × Int) =>
    bif (decide (x1.2.2.2 < 3)) then
      (iCountBy x1.2.1 x1.2.2.2).bind fun r2 =>
      (gd (x1.2.2.1.length + [r2].length)).bind fun _ =>
      some (.inl (x1.1, x1.2.1, x1.2.2.1 ++ [r2], w64 (x1.2.2.2 + 1)))
    else
      some (.inr (x1.2.2.1))
  ) (a.id, a.ops, [], 0)
noncomputable def iSeenByFS : Fsp := { fid := 131, ps := [⟨true, .base .replica⟩], rs := [⟨false, .list (.base .int)⟩], ex := true, fn := fun x => iSeenBy x }
noncomputable def iAddOp (a : GReplica) (b : GOp) : Option (GReplica × Bool) :=
  (iCopyReplica a).bind fun r1 =>
  (iIsValidReplica a).bind fun r2 =>
  bif (!r2) then
    some (r1, false)
  else
  (iCopyOp b).bind fun r3 =>
  (iLastTime a.ops).bind fun r4 =>
  (iSeenBy a).bind fun r5 =>
  (gd (r1.ops.length + [GOp.mk (w64 (r4 + 1)) a.id r3.kind r5 r3.edit r3.src r3.dst r3.cell r3.version r3.reads].length)).bind fun _ =>
  (iIsValidReplica (GReplica.mk r1.id (r1.ops ++ [GOp.mk (w64 (r4 + 1)) a.id r3.kind r5 r3.edit r3.src r3.dst r3.cell r3.version r3.reads]))).bind fun r6 =>
  bif (!r6) then
    (iCopyReplica a).bind fun r7 =>
    some (r7, false)
  else
    some (GReplica.mk r1.id (r1.ops ++ [GOp.mk (w64 (r4 + 1)) a.id r3.kind r5 r3.edit r3.src r3.dst r3.cell r3.version r3.reads]), true)
noncomputable def iAddOpFS : Fsp := { fid := 58, ps := [⟨true, .base .replica⟩, ⟨true, .base .op⟩], rs := [⟨true, .base .replica⟩, ⟨false, .base .bool⟩], ex := true, fn := fun x => iAddOp x.1 x.2 }
noncomputable def markOp (a : GOp) (b : Int) : Option (GOp × Int) :=
  (markIntS a.seen b).bind fun r1 =>
  (markReadS a.reads r1.2).bind fun r2 =>
  some (GOp.mk a.time a.by_ a.kind r1.1 a.edit a.src a.dst a.cell a.version r2.1, r2.2)
noncomputable def markOpMS : Msp := { fid := 60, sh := ⟨true, .base .op⟩, fn := fun x n => markOp x n }
noncomputable def heldReplica (a : GReplica) (b : Int) : Option (Int) :=
  (heldOpS a.ops b).bind fun r1 =>
  bif (decide (r1 < 0)) then
    some ((-1))
  else
    some (r1)
noncomputable def heldReplicaFS : Fsp := { fid := 61, ps := [⟨true, .base .replica⟩, ⟨false, .base .int⟩], rs := [⟨false, .base .int⟩], ex := true, fn := fun x => heldReplica x.1 x.2 }
noncomputable def FnExactAddOp (a : GReplica) (b : GOp) : Option (Bool) :=
  (szReplica a 1048576).bind fun r1 =>
  bif (decide (r1 < 0)) then
    some (true)
  else
  (szOp b r1).bind fun r2 =>
  bif (decide (r2 < 0)) then
    some (true)
  else
  (toReplica a).bind fun r3 =>
  (toOp b).bind fun r4 =>
  (sAddOp r3 r4).bind fun r5 =>
  (toReplica a).bind fun r6 =>
  (toOp b).bind fun r7 =>
  (iAddOp r6 r7).bind fun r8 =>
  (eqReplica r8.1 r5.1).bind fun r9 =>
  bif (!r9) then
    some (false)
  else
  bif (!(r8.2 == r5.2)) then
    some (false)
  else
  (toReplica a).bind fun r10 =>
  (eqReplica r6 r10).bind fun r11 =>
  bif (!r11) then
    some (false)
  else
  (toOp b).bind fun r12 =>
  (eqOp r7 r12).bind fun r13 =>
  bif (!r13) then
    some (false)
  else
  (markReplica r6 1).bind fun r14 =>
  (markOp r7 r14.2).bind fun r15 =>
  bif (decide (r15.2 < 0)) then
    some (false)
  else
  (eqReplica r8.1 r5.1).bind fun r16 =>
  bif (!r16) then
    some (false)
  else
  bif (!(r8.2 == r5.2)) then
    some (false)
  else
  (markReplica r8.1 1).bind fun r17 =>
  (heldReplica (GReplica.mk r8.1.id r17.1.ops) 1).bind fun r18 =>
  bif (decide (r18 < 0)) then
    some (false)
  else
  bif (r18 != r17.2) then
    some (false)
  else
  (toReplica a).bind fun r19 =>
  (toOp b).bind fun r20 =>
  (iAddOp r19 r20).bind fun r21 =>
  (eqReplica r21.1 r5.1).bind fun r22 =>
  bif (!r22) then
    some (false)
  else
  bif (!(r21.2 == r5.2)) then
    some (false)
  else
    (heldReplica (GReplica.mk r8.1.id r17.1.ops) 1).bind fun r23 =>
    bif (decide (r23 < 0)) then
      some (false)
    else
      bif (r23 != r17.2) then
        some (false)
      else
        some (true)
noncomputable def FnExactAddOpFS : Fsp := { fid := 10, ps := [⟨true, .base .replica⟩, ⟨true, .base .op⟩], rs := [⟨false, .base .bool⟩], ex := true, fn := fun x => FnExactAddOp x.1 x.2 }
end Go.Proofs.Ytmfhbmfadapdbaa
