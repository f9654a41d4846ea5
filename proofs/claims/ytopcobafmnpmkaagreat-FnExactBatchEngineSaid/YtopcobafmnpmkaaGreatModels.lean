/- What the functions compute, by gen.py. -/
import Derived.Test.YtopcobafmnpmkaaGreatTabs
import Derived.Test.YtopcobafmnpmkaaGreatSortD
namespace Go.Proofs.YtopcobafmnpmkaaGreat
open Go.Abs Go.Proofs
set_option linter.unusedVariables false
abbrev siz {α : Type} [SizeOf α] (x : α) : Nat := SizeOf.sizeOf x
abbrev w64 (n : Int) : Int := IntKind.i64.wrap n
abbrev w8 (n : Int) : Int := IntKind.u8.wrap n
noncomputable def szCell (a : GCell) (b : Int) : Option (Int) :=
  bif (decide ((w64 (b - (a.name.length : Int))) < 0)) then
    some ((-1))
  else
    bif (decide ((w64 ((w64 (b - (a.name.length : Int))) - (a.code.length : Int))) < 0)) then
      some ((-1))
    else
      some (w64 ((w64 (b - (a.name.length : Int))) - (a.code.length : Int)))
noncomputable def szCellFS : Fsp := { fid := 77, ps := [⟨true, .base .cell⟩, ⟨false, .base .int⟩], rs := [⟨false, .base .int⟩], ex := true, fn := fun x => szCell x.1 x.2 }
noncomputable def szCellS (a : List GCell) (b : Int) : Option (Int) :=
  bif (decide ((w64 (b - (a.length : Int))) < 0)) then
    some ((-1))
  else
  loopD (fun (x1 : (List GCell) × Int × Int) =>
    bif (decide (x1.2.2 < (x1.1.length : Int))) then
      (idx x1.1 x1.2.2).bind fun e2 =>
      (szCell e2 x1.2.1).bind fun r3 =>
      bif (decide (r3 < 0)) then
        some (.inr ((-1)))
      else
        some (.inl (x1.1, r3, w64 (x1.2.2 + 1)))
    else
      some (.inr (x1.2.1))
  ) (a, w64 (b - (a.length : Int)), 0)
noncomputable def szCellSFS : Fsp := { fid := 73, ps := [⟨false, .list (.base .cell)⟩, ⟨false, .base .int⟩], rs := [⟨false, .base .int⟩], ex := true, fn := fun x => szCellS x.1 x.2 }
noncomputable def szNotebook (a : GNotebook) (b : Int) : Option (Int) :=
  (szCellS a.cells b).bind fun r1 =>
  bif (decide (r1 < 0)) then
    some ((-1))
  else
    some (r1)
noncomputable def szNotebookFS : Fsp := { fid := 26, ps := [⟨true, .base .notebook⟩, ⟨false, .base .int⟩], rs := [⟨false, .base .int⟩], ex := true, fn := fun x => szNotebook x.1 x.2 }
noncomputable def szFile (a : GFile) (b : Int) : Option (Int) :=
  bif (decide ((w64 (b - (a.name.length : Int))) < 0)) then
    some ((-1))
  else
    some (w64 (b - (a.name.length : Int)))
noncomputable def szFileFS : Fsp := { fid := 129, ps := [⟨true, .base .file⟩, ⟨false, .base .int⟩], rs := [⟨false, .base .int⟩], ex := true, fn := fun x => szFile x.1 x.2 }
noncomputable def szFileS (a : List GFile) (b : Int) : Option (Int) :=
  bif (decide ((w64 (b - (a.length : Int))) < 0)) then
    some ((-1))
  else
  loopD (fun (x1 : (List GFile) × Int × Int) =>
    bif (decide (x1.2.2 < (x1.1.length : Int))) then
      (idx x1.1 x1.2.2).bind fun e2 =>
      (szFile e2 x1.2.1).bind fun r3 =>
      bif (decide (r3 < 0)) then
        some (.inr ((-1)))
      else
        some (.inl (x1.1, r3, w64 (x1.2.2 + 1)))
    else
      some (.inr (x1.2.1))
  ) (a, w64 (b - (a.length : Int)), 0)
noncomputable def szFileSFS : Fsp := { fid := 74, ps := [⟨false, .list (.base .file)⟩, ⟨false, .base .int⟩], rs := [⟨false, .base .int⟩], ex := true, fn := fun x => szFileS x.1 x.2 }
noncomputable def szWorld (a : GWorld) (b : Int) : Option (Int) :=
  (szFileS a.files b).bind fun r1 =>
  bif (decide (r1 < 0)) then
    some ((-1))
  else
    some (r1)
noncomputable def szWorldFS : Fsp := { fid := 27, ps := [⟨true, .base .world⟩, ⟨false, .base .int⟩], rs := [⟨false, .base .int⟩], ex := true, fn := fun x => szWorld x.1 x.2 }
noncomputable def szStringS (a : List Str) (b : Int) : Option (Int) :=
  bif (decide ((w64 (b - (a.length : Int))) < 0)) then
    some ((-1))
  else
    loopD (fun (x1 : (List Str) × Int × Int) =>
      bif (decide (x1.2.2 < (x1.1.length : Int))) then
        (idx x1.1 x1.2.2).bind fun e2 =>
        bif (decide ((w64 (x1.2.1 - (e2.length : Int))) < 0)) then
          some (.inr ((-1)))
        else
          some (.inl (x1.1, w64 (x1.2.1 - (e2.length : Int)), w64 (x1.2.2 + 1)))
      else
        some (.inr (x1.2.1))
    ) (a, w64 (b - (a.length : Int)), 0)
noncomputable def szStringSFS : Fsp := { fid := 170, ps := [⟨false, .list (.base .str)⟩, ⟨false, .base .int⟩], rs := [⟨false, .base .int⟩], ex := true, fn := fun x => szStringS x.1 x.2 }
noncomputable def szIntS (a : List Int) (b : Int) : Option (Int) :=
  bif (decide ((w64 (b - (a.length : Int))) < 0)) then
    some ((-1))
  else
    some (w64 (b - (a.length : Int)))
noncomputable def szIntSFS : Fsp := { fid := 131, ps := [⟨false, .list (.base .int)⟩, ⟨false, .base .int⟩], rs := [⟨false, .base .int⟩], ex := true, fn := fun x => szIntS x.1 x.2 }
noncomputable def szOriginS (a : List GOrigin) (b : Int) : Option (Int) :=
  bif (decide ((w64 (b - (a.length : Int))) < 0)) then
    some ((-1))
  else
    some (w64 (b - (a.length : Int)))
noncomputable def szOriginSFS : Fsp := { fid := 206, ps := [⟨false, .list (.base .origin)⟩, ⟨false, .base .int⟩], rs := [⟨false, .base .int⟩], ex := true, fn := fun x => szOriginS x.1 x.2 }
noncomputable def szRow (a : GRow) (b : Int) : Option (Int) :=
  (szIntS a.cells b).bind fun r1 =>
  bif (decide (r1 < 0)) then
    some ((-1))
  else
    (szOriginS a.orig r1).bind fun r2 =>
    bif (decide (r2 < 0)) then
      some ((-1))
    else
      some (r2)
noncomputable def szRowFS : Fsp := { fid := 195, ps := [⟨true, .base .row⟩, ⟨false, .base .int⟩], rs := [⟨false, .base .int⟩], ex := true, fn := fun x => szRow x.1 x.2 }
noncomputable def szRowS (a : List GRow) (b : Int) : Option (Int) :=
  bif (decide ((w64 (b - (a.length : Int))) < 0)) then
    some ((-1))
  else
  loopD (fun (x1 : (List GRow) × Int × Int) =>
    bif (decide (x1.2.2 < (x1.1.length : Int))) then
      (idx x1.1 x1.2.2).bind fun e2 =>
      (szRow e2 x1.2.1).bind fun r3 =>
      bif (decide (r3 < 0)) then
        some (.inr ((-1)))
      else
        some (.inl (x1.1, r3, w64 (x1.2.2 + 1)))
    else
      some (.inr (x1.2.1))
  ) (a, w64 (b - (a.length : Int)), 0)
noncomputable def szRowSFS : Fsp := { fid := 171, ps := [⟨false, .list (.base .row)⟩, ⟨false, .base .int⟩], rs := [⟨false, .base .int⟩], ex := true, fn := fun x => szRowS x.1 x.2 }
noncomputable def szValueB (rszValue : GVal → Int → Option (Int)) (rszValueS : (List GVal) → Int → Option (Int)) (a : GVal) (b : Int) : Option (Int) :=
  bif (decide ((w64 (b - (a.text.length : Int))) < 0)) then
    some ((-1))
  else
  (rszValueS a.list (w64 (b - (a.text.length : Int)))).bind fun r1 =>
  bif (decide (r1 < 0)) then
    some ((-1))
  else
    (szStringS a.columns r1).bind fun r2 =>
    bif (decide (r2 < 0)) then
      some ((-1))
    else
      (szRowS a.rows r2).bind fun r3 =>
      bif (decide (r3 < 0)) then
        some ((-1))
      else
        some (r3)
noncomputable def szValueSB (rszValue : GVal → Int → Option (Int)) (rszValueS : (List GVal) → Int → Option (Int)) (a : List GVal) (b : Int) : Option (Int) :=
  bif (decide ((w64 (b - (a.length : Int))) < 0)) then
    some ((-1))
  else
  loopD (fun (x1 : (List GVal) × Int × Int) =>
    bif (decide (x1.2.2 < (x1.1.length : Int))) then
      (idx x1.1 x1.2.2).bind fun e2 =>
      (rszValue (reVal e2) x1.2.1).bind fun r3 =>
      bif (decide (r3 < 0)) then
        some (.inr ((-1)))
      else
        some (.inl (x1.1, r3, w64 (x1.2.2 + 1)))
    else
      some (.inr (x1.2.1))
  ) (a, w64 (b - (a.length : Int)), 0)
noncomputable def szValueG : Nat → (GVal → Int → Option (Int)) × ((List GVal) → Int → Option (Int))
  | 0 => (fun _ _ => none, fun _ _ => none)
  | n + 1 => (szValueB (szValueG n).1 (szValueG n).2, szValueSB (szValueG n).1 (szValueG n).2)
noncomputable def szValue (a : GVal) (b : Int) : Option (Int) := (szValueG (siz a + 1)).1 a b
noncomputable def szValueFS : Fsp := { fid := 132, ps := [⟨true, .base .val⟩, ⟨false, .base .int⟩], rs := [⟨false, .base .int⟩], ex := true, fn := fun x => szValue x.1 x.2 }
noncomputable def szValueFSN (n : Nat) : Fsp := { fid := 132, ps := [⟨true, .base .val⟩, ⟨false, .base .int⟩], rs := [⟨false, .base .int⟩], ex := true, fn := fun x => (szValueG n).1 x.1 x.2 }
noncomputable def szValueS (a : List GVal) (b : Int) : Option (Int) := (szValueG (siz a + 1)).2 a b
noncomputable def szValueSFS : Fsp := { fid := 169, ps := [⟨false, .list (.base .val)⟩, ⟨false, .base .int⟩], rs := [⟨false, .base .int⟩], ex := true, fn := fun x => szValueS x.1 x.2 }
noncomputable def szValueSFSN (n : Nat) : Fsp := { fid := 169, ps := [⟨false, .list (.base .val)⟩, ⟨false, .base .int⟩], rs := [⟨false, .base .int⟩], ex := true, fn := fun x => (szValueG n).2 x.1 x.2 }
noncomputable def szRead (a : GRead) (b : Int) : Option (Int) :=
  bif (decide ((w64 (b - (a.text.length : Int))) < 0)) then
    some ((-1))
  else
    (szValue (reVal a.result) (w64 (b - (a.text.length : Int)))).bind fun r1 =>
    bif (decide (r1 < 0)) then
      some ((-1))
    else
      some (r1)
noncomputable def szReadFS : Fsp := { fid := 168, ps := [⟨true, .base .read⟩, ⟨false, .base .int⟩], rs := [⟨false, .base .int⟩], ex := true, fn := fun x => szRead x.1 x.2 }
noncomputable def szReadS (a : List GRead) (b : Int) : Option (Int) :=
  bif (decide ((w64 (b - (a.length : Int))) < 0)) then
    some ((-1))
  else
  loopD (fun (x1 : (List GRead) × Int × Int) =>
    bif (decide (x1.2.2 < (x1.1.length : Int))) then
      (idx x1.1 x1.2.2).bind fun e2 =>
      (szRead (reRead e2) x1.2.1).bind fun r3 =>
      bif (decide (r3 < 0)) then
        some (.inr ((-1)))
      else
        some (.inl (x1.1, r3, w64 (x1.2.2 + 1)))
    else
      some (.inr (x1.2.1))
  ) (a, w64 (b - (a.length : Int)), 0)
noncomputable def szReadSFS : Fsp := { fid := 130, ps := [⟨false, .list (.base .read)⟩, ⟨false, .base .int⟩], rs := [⟨false, .base .int⟩], ex := true, fn := fun x => szReadS x.1 x.2 }
noncomputable def szTape (a : GTape) (b : Int) : Option (Int) :=
  (szReadS a.reads b).bind fun r1 =>
  bif (decide (r1 < 0)) then
    some ((-1))
  else
    some (r1)
noncomputable def szTapeFS : Fsp := { fid := 75, ps := [⟨true, .base .tape⟩, ⟨false, .base .int⟩], rs := [⟨false, .base .int⟩], ex := true, fn := fun x => szTape x.1 x.2 }
noncomputable def szTapeS (a : List GTape) (b : Int) : Option (Int) :=
  bif (decide ((w64 (b - (a.length : Int))) < 0)) then
    some ((-1))
  else
  loopD (fun (x1 : (List GTape) × Int × Int) =>
    bif (decide (x1.2.2 < (x1.1.length : Int))) then
      (idx x1.1 x1.2.2).bind fun e2 =>
      (szTape e2 x1.2.1).bind fun r3 =>
      bif (decide (r3 < 0)) then
        some (.inr ((-1)))
      else
        some (.inl (x1.1, r3, w64 (x1.2.2 + 1)))
    else
      some (.inr (x1.2.1))
  ) (a, w64 (b - (a.length : Int)), 0)
noncomputable def szTapeSFS : Fsp := { fid := 28, ps := [⟨false, .list (.base .tape)⟩, ⟨false, .base .int⟩], rs := [⟨false, .base .int⟩], ex := true, fn := fun x => szTapeS x.1 x.2 }
noncomputable def szEntry (a : GEntry) (b : Int) : Option (Int) :=
  (szIntS a.inputs b).bind fun r1 =>
  bif (decide (r1 < 0)) then
    some ((-1))
  else
    (szValue (reVal a.value) r1).bind fun r2 =>
    bif (decide (r2 < 0)) then
      some ((-1))
    else
      some (r2)
noncomputable def szEntryFS : Fsp := { fid := 76, ps := [⟨true, .base .entry⟩, ⟨false, .base .int⟩], rs := [⟨false, .base .int⟩], ex := true, fn := fun x => szEntry x.1 x.2 }
noncomputable def szEntryS (a : List GEntry) (b : Int) : Option (Int) :=
  bif (decide ((w64 (b - (a.length : Int))) < 0)) then
    some ((-1))
  else
  loopD (fun (x1 : (List GEntry) × Int × Int) =>
    bif (decide (x1.2.2 < (x1.1.length : Int))) then
      (idx x1.1 x1.2.2).bind fun e2 =>
      (szEntry (reEntry e2) x1.2.1).bind fun r3 =>
      bif (decide (r3 < 0)) then
        some (.inr ((-1)))
      else
        some (.inl (x1.1, r3, w64 (x1.2.2 + 1)))
    else
      some (.inr (x1.2.1))
  ) (a, w64 (b - (a.length : Int)), 0)
noncomputable def szEntrySFS : Fsp := { fid := 29, ps := [⟨false, .list (.base .entry)⟩, ⟨false, .base .int⟩], rs := [⟨false, .base .int⟩], ex := true, fn := fun x => szEntryS x.1 x.2 }
noncomputable def szEngine (a : GEngine) (b : Int) : Option (Int) :=
  (szNotebook a.notebook b).bind fun r1 =>
  bif (decide (r1 < 0)) then
    some ((-1))
  else
  (szWorld a.world r1).bind fun r2 =>
  bif (decide (r2 < 0)) then
    some ((-1))
  else
    (szTapeS a.tapes r2).bind fun r3 =>
    bif (decide (r3 < 0)) then
      some ((-1))
    else
      (szEntryS a.entries r3).bind fun r4 =>
      bif (decide (r4 < 0)) then
        some ((-1))
      else
        some (r4)
noncomputable def szEngineFS : Fsp := { fid := 5, ps := [⟨true, .base .engine⟩, ⟨false, .base .int⟩], rs := [⟨false, .base .int⟩], ex := true, fn := fun x => szEngine x.1 x.2 }
noncomputable def szEdit (a : GEdit) (b : Int) : Option (Int) :=
  (szCell a.cell b).bind fun r1 =>
  bif (decide (r1 < 0)) then
    some ((-1))
  else
    some (r1)
noncomputable def szEditFS : Fsp := { fid := 30, ps := [⟨true, .base .edit⟩, ⟨false, .base .int⟩], rs := [⟨false, .base .int⟩], ex := true, fn := fun x => szEdit x.1 x.2 }
noncomputable def szEditS (a : List GEdit) (b : Int) : Option (Int) :=
  bif (decide ((w64 (b - (a.length : Int))) < 0)) then
    some ((-1))
  else
  loopD (fun (x1 : (List GEdit) × Int × Int) =>
    bif (decide (x1.2.2 < (x1.1.length : Int))) then
      (idx x1.1 x1.2.2).bind fun e2 =>
      (szEdit e2 x1.2.1).bind fun r3 =>
      bif (decide (r3 < 0)) then
        some (.inr ((-1)))
      else
        some (.inl (x1.1, r3, w64 (x1.2.2 + 1)))
    else
      some (.inr (x1.2.1))
  ) (a, w64 (b - (a.length : Int)), 0)
noncomputable def szEditSFS : Fsp := { fid := 6, ps := [⟨false, .list (.base .edit)⟩, ⟨false, .base .int⟩], rs := [⟨false, .base .int⟩], ex := true, fn := fun x => szEditS x.1 x.2 }
noncomputable def sL17Copy (a : GNotebook) : Option (GNotebook) :=
  (gd (0 + a.cells.length)).bind fun _ =>
  some (GNotebook.mk ([] ++ a.cells))
noncomputable def sL17CopyFS : Fsp := { fid := 78, ps := [⟨true, .base .notebook⟩], rs := [⟨true, .base .notebook⟩], ex := true, fn := fun x => sL17Copy x }
noncomputable def sL1In (a : Int) (b : Int) (c : Int) : Option (Bool) :=
  bif (decide (a ≥ b)) then
    some ((decide (a ≤ c)))
  else
    some (false)
noncomputable def sL1InFS : Fsp := { fid := 70, ps := [⟨false, .base .int⟩, ⟨false, .base .int⟩, ⟨false, .base .int⟩], rs := [⟨false, .base .bool⟩], ex := true, fn := fun x => sL1In x.1 x.2.1 x.2.2 }
noncomputable def sCellIndex (a : GNotebook) (b : Int) : Option (Int) :=
  loopD (fun (x1 : Int × (List GCell) × Int) =>
    bif (decide (x1.2.2 < (x1.2.1.length : Int))) then
      (idx x1.2.1 x1.2.2).bind fun e2 =>
      bif (e2.id == x1.1) then
        some (.inr (x1.2.2))
      else
        some (.inl (x1.1, x1.2.1, w64 (x1.2.2 + 1)))
    else
      some (.inr ((-1)))
  ) (b, a.cells, 0)
noncomputable def sCellIndexFS : Fsp := { fid := 134, ps := [⟨true, .base .notebook⟩, ⟨false, .base .int⟩], rs := [⟨false, .base .int⟩], ex := true, fn := fun x => sCellIndex x.1 x.2 }
noncomputable def sIsPrintable (a : Str) : Option (Bool) :=
  loopD (fun (x1 : Str × Int) =>
    bif (decide (x1.2 < (x1.1.length : Int))) then
      (idx x1.1 x1.2).bind fun c2 =>
      bif (decide ((c2.toNat : Int) < 32)) then
        some (.inr (false))
      else
        (idx x1.1 x1.2).bind fun c3 =>
        bif (decide ((c3.toNat : Int) > 126)) then
          some (.inr (false))
        else
          some (.inl (x1.1, w64 (x1.2 + 1)))
    else
      some (.inr ((decide ((x1.1.length : Int) ≤ 120))))
  ) (a, 0)
noncomputable def sIsPrintableFS : Fsp := { fid := 172, ps := [⟨false, .base .str⟩], rs := [⟨false, .base .bool⟩], ex := true, fn := fun x => sIsPrintable x }
noncomputable def sL2Shape (a : Str) : Option (Bool) :=
  loopD (fun (x1 : Str × Int) =>
    bif (decide (x1.2 < (x1.1.length : Int))) then
      (idx x1.1 x1.2).bind fun c2 =>
      bif (decide ((c2.toNat : Int) ≥ 97)) then
        (idx x1.1 x1.2).bind fun c3 =>
        (idx x1.1 x1.2).bind fun c4 =>
        bif (decide ((c4.toNat : Int) ≥ 48)) then
          (idx x1.1 x1.2).bind fun c5 =>
          bif (!(decide ((c3.toNat : Int) ≤ 122))) then
            bif (x1.2 == 0) then
              some (.inr (false))
            else
              bif (!(decide ((c5.toNat : Int) ≤ 57))) then
                some (.inr (false))
              else
                some (.inl (x1.1, w64 (x1.2 + 1)))
          else
            some (.inl (x1.1, w64 (x1.2 + 1)))
        else
          bif (!(decide ((c3.toNat : Int) ≤ 122))) then
            bif (x1.2 == 0) then
              some (.inr (false))
            else
              some (.inr (false))
          else
            some (.inl (x1.1, w64 (x1.2 + 1)))
      else
      (idx x1.1 x1.2).bind fun c6 =>
      bif (decide ((c6.toNat : Int) ≥ 48)) then
        (idx x1.1 x1.2).bind fun c7 =>
        bif (x1.2 == 0) then
          some (.inr (false))
        else
          bif (!(decide ((c7.toNat : Int) ≤ 57))) then
            some (.inr (false))
          else
            some (.inl (x1.1, w64 (x1.2 + 1)))
      else
        bif (x1.2 == 0) then
          some (.inr (false))
        else
          some (.inr (false))
    else
      some (.inr ((decide ((x1.1.length : Int) > 0))))
  ) (a, 0)
noncomputable def sL2ShapeFS : Fsp := { fid := 196, ps := [⟨false, .base .str⟩], rs := [⟨false, .base .bool⟩], ex := true, fn := fun x => sL2Shape x }
noncomputable def sL1Has (a : List Str) (b : Str) : Option (Bool) :=
  loopD (fun (x1 : (List Str) × Str × Int) =>
    bif (decide (x1.2.2 < (x1.1.length : Int))) then
      (idx x1.1 x1.2.2).bind fun e2 =>
      bif (e2 == x1.2.1) then
        some (.inr (true))
      else
        some (.inl (x1.1, x1.2.1, w64 (x1.2.2 + 1)))
    else
      some (.inr (false))
  ) (a, b, 0)
noncomputable def sL1HasFS : Fsp := { fid := 207, ps := [⟨false, .list (.base .str)⟩, ⟨false, .base .str⟩], rs := [⟨false, .base .bool⟩], ex := true, fn := fun x => sL1Has x.1 x.2 }
noncomputable def sL2Reserved : Option ((List Str)) :=
  some (([[108, 101, 116], [105, 110], [105, 102], [116, 104, 101, 110], [101, 108, 115, 101], [102, 111, 114], [100, 111], [108, 101, 110], [115, 117, 109], [116, 97, 107, 101], [115, 107, 105, 112], [114, 97, 110, 103, 101], [110, 116, 104], [119, 104, 101, 114, 101], [107, 101, 101, 112], [97, 100, 100], [103, 114, 111, 117, 112], [106, 111, 105, 110], [99, 111, 108, 117, 109, 110], [114, 111, 119, 115], [99, 108, 111, 99, 107], [99, 104, 97, 110, 99, 101], [102, 105, 108, 101], [116, 97, 98, 108, 101]] : List Str))
noncomputable def sL2ReservedFS : Fsp := { fid := 208, ps := [], rs := [⟨false, .list (.base .str)⟩], ex := true, fn := fun x => sL2Reserved }
noncomputable def sIsReserved (a : Str) : Option (Bool) :=
  (sL2Reserved).bind fun r1 =>
  (sL1Has r1 a).bind fun r2 =>
  some (r2)
noncomputable def sIsReservedFS : Fsp := { fid := 197, ps := [⟨false, .base .str⟩], rs := [⟨false, .base .bool⟩], ex := true, fn := fun x => sIsReserved x }
noncomputable def sIsValidName (a : Str) : Option (Bool) :=
  (sL2Shape a).bind fun r1 =>
  bif r1 then
    bif (decide ((a.length : Int) ≤ 8)) then
      (sIsReserved a).bind fun r2 =>
      some ((!r2))
    else
      some (false)
  else
    some (false)
noncomputable def sIsValidNameFS : Fsp := { fid := 173, ps := [⟨false, .base .str⟩], rs := [⟨false, .base .bool⟩], ex := true, fn := fun x => sIsValidName x }
noncomputable def sIsValidCell (a : GCell) : Option (Bool) :=
  (sL1In a.id 1 999).bind fun r1 =>
  bif (!r1) then
    some (false)
  else
  (sL1In a.version 1 999).bind fun r2 =>
  bif (!r2) then
    some (false)
  else
  (sIsPrintable a.code).bind fun r3 =>
  bif (!r3) then
    some (false)
  else
  bif (a.kind == 1) then
    bif (a.name == []) then
      some ((a.n == 0))
    else
      some (false)
  else
  bif (a.kind == 2) then
    (sIsValidName a.name).bind fun r4 =>
    bif r4 then
      some ((a.n == 0))
    else
      some (false)
  else
  bif (a.kind == 4) then
    (sIsValidName a.name).bind fun r5 =>
    bif r5 then
      some ((a.n == 0))
    else
      some (false)
  else
  bif (a.kind == 3) then
    (sIsValidName a.name).bind fun r6 =>
    bif r6 then
      bif (a.code == []) then
        (sL1In a.n 0 100).bind fun r7 =>
        some (r7)
      else
        some (false)
    else
      some (false)
  else
    some (false)
noncomputable def sIsValidCellFS : Fsp := { fid := 135, ps := [⟨true, .base .cell⟩], rs := [⟨false, .base .bool⟩], ex := true, fn := fun x => sIsValidCell x }
noncomputable def sIsValidNotebook (a : GNotebook) : Option (Bool) :=
  loopD (fun (x1 : (List GCell) × Int) =>
    bif (decide (x1.2 < (x1.1.length : Int))) then
      (idx x1.1 x1.2).bind fun e2 =>
      (sIsValidCell e2).bind fun r3 =>
      bif (!r3) then
        some (.inr (false))
      else
        (idx x1.1 x1.2).bind fun e4 =>
        (sCellIndex (GNotebook.mk x1.1) e4.id).bind fun r5 =>
        bif (r5 != x1.2) then
          some (.inr (false))
        else
          some (.inl (x1.1, w64 (x1.2 + 1)))
    else
      some (.inr ((decide ((x1.1.length : Int) ≤ 8))))
  ) (a.cells, 0)
noncomputable def sIsValidNotebookFS : Fsp := { fid := 133, ps := [⟨true, .base .notebook⟩], rs := [⟨false, .base .bool⟩], ex := true, fn := fun x => sIsValidNotebook x }
noncomputable def sL1Max (a : Int) (b : Int) : Option (Int) :=
  bif (decide (a > b)) then
    some (a)
  else
    some (b)
noncomputable def sL1MaxFS : Fsp := { fid := 124, ps := [⟨false, .base .int⟩, ⟨false, .base .int⟩], rs := [⟨false, .base .int⟩], ex := true, fn := fun x => sL1Max x.1 x.2 }
noncomputable def sL1Min (a : Int) (b : Int) : Option (Int) :=
  bif (decide (a < b)) then
    some (a)
  else
    some (b)
noncomputable def sL1MinFS : Fsp := { fid := 174, ps := [⟨false, .base .int⟩, ⟨false, .base .int⟩], rs := [⟨false, .base .int⟩], ex := true, fn := fun x => sL1Min x.1 x.2 }
noncomputable def sL20Put (a : List GCell) (b : Int) (c : GCell) : Option ((List GCell)) :=
  (sL1Min b (a.length : Int)).bind fun r1 =>
  (sL1Max 0 r1).bind fun r2 =>
  (eff.cutL a none (some r2)).bind fun r3 =>
  (gd (0 + r3.length)).bind fun _ =>
  (gd (([] ++ r3).length + [c].length)).bind fun _ =>
  (eff.cutL a (some r2) none).bind fun r4 =>
  (gd ((([] ++ r3) ++ [c]).length + r4.length)).bind fun _ =>
  some ((([] ++ r3) ++ [c]) ++ r4)
noncomputable def sL20PutFS : Fsp := { fid := 136, ps := [⟨false, .list (.base .cell)⟩, ⟨false, .base .int⟩, ⟨true, .base .cell⟩], rs := [⟨false, .list (.base .cell)⟩], ex := true, fn := fun x => sL20Put x.1 x.2.1 x.2.2 }
noncomputable def sL20Drop (a : List GCell) (b : Int) : Option ((List GCell)) :=
  (eff.cutL a none (some b)).bind fun r1 =>
  (gd (0 + r1.length)).bind fun _ =>
  (eff.cutL a (some (w64 (b + 1))) none).bind fun r2 =>
  (gd (([] ++ r1).length + r2.length)).bind fun _ =>
  some (([] ++ r1) ++ r2)
noncomputable def sL20DropFS : Fsp := { fid := 137, ps := [⟨false, .list (.base .cell)⟩, ⟨false, .base .int⟩], rs := [⟨false, .list (.base .cell)⟩], ex := true, fn := fun x => sL20Drop x.1 x.2 }
noncomputable def sL20Cell (a : GCell) (b : GEdit) : Option (GCell × Int) :=
  bif (b.kind == 4) then
    bif (a.kind == 3) then
      some (a, 5)
    else
    bif (b.kind != 5) then
      bif (a.version == 999) then
        some (GCell.mk a.id a.version a.kind b.cell.name b.cell.code a.n, 6)
      else
        (sIsValidCell (GCell.mk a.id (w64 (a.version + 1)) a.kind b.cell.name b.cell.code a.n)).bind fun r1 =>
        bif (!r1) then
          some (GCell.mk a.id (w64 (a.version + 1)) a.kind b.cell.name b.cell.code a.n, 1)
        else
          some (GCell.mk a.id (w64 (a.version + 1)) a.kind b.cell.name b.cell.code a.n, 0)
    else
      (sIsValidCell (GCell.mk a.id a.version a.kind b.cell.name b.cell.code a.n)).bind fun r2 =>
      bif (!r2) then
        some (GCell.mk a.id a.version a.kind b.cell.name b.cell.code a.n, 1)
      else
        some (GCell.mk a.id a.version a.kind b.cell.name b.cell.code a.n, 0)
  else
  bif (b.kind == 5) then
    bif (a.kind != 3) then
      some (a, 5)
    else
    bif (b.kind != 5) then
      bif (a.version == 999) then
        some (GCell.mk a.id a.version a.kind a.name a.code b.cell.n, 6)
      else
        (sIsValidCell (GCell.mk a.id (w64 (a.version + 1)) a.kind a.name a.code b.cell.n)).bind fun r3 =>
        bif (!r3) then
          some (GCell.mk a.id (w64 (a.version + 1)) a.kind a.name a.code b.cell.n, 1)
        else
          some (GCell.mk a.id (w64 (a.version + 1)) a.kind a.name a.code b.cell.n, 0)
    else
      (sIsValidCell (GCell.mk a.id a.version a.kind a.name a.code b.cell.n)).bind fun r4 =>
      bif (!r4) then
        some (GCell.mk a.id a.version a.kind a.name a.code b.cell.n, 1)
      else
        some (GCell.mk a.id a.version a.kind a.name a.code b.cell.n, 0)
  else
  bif (a.kind != 2) then
    some (a, 5)
  else
  bif (b.kind != 5) then
    bif (a.version == 999) then
      some (a, 6)
    else
      (sIsValidCell (GCell.mk a.id (w64 (a.version + 1)) a.kind a.name a.code a.n)).bind fun r5 =>
      bif (!r5) then
        some (GCell.mk a.id (w64 (a.version + 1)) a.kind a.name a.code a.n, 1)
      else
        some (GCell.mk a.id (w64 (a.version + 1)) a.kind a.name a.code a.n, 0)
  else
    (sIsValidCell a).bind fun r6 =>
    bif (!r6) then
      some (a, 1)
    else
      some (a, 0)
noncomputable def sL20CellFS : Fsp := { fid := 138, ps := [⟨true, .base .cell⟩, ⟨true, .base .edit⟩], rs := [⟨true, .base .cell⟩, ⟨false, .base .int⟩], ex := true, fn := fun x => sL20Cell x.1 x.2 }
noncomputable def sApplyEdit (a : GNotebook) (b : GEdit) : Option (GNotebook × Int) :=
  (sL17Copy a).bind fun r1 =>
  (sIsValidNotebook a).bind fun r2 =>
  bif (!r2) then
    some (r1, 1)
  else
  (sL1In b.kind 1 6).bind fun r3 =>
  bif (!r3) then
    some (r1, 1)
  else
  (sCellIndex a b.cell.id).bind fun r4 =>
  bif (b.kind == 1) then
    (sIsValidCell b.cell).bind fun r5 =>
    bif (!r5) then
      some (r1, 1)
    else
      bif (decide (r4 ≥ 0)) then
        some (r1, 3)
      else
        bif ((a.cells.length : Int) == 8) then
          some (r1, 4)
        else
          (sL20Put a.cells b.pos b.cell).bind fun r6 =>
          some (GNotebook.mk r6, 0)
  else
  bif (decide (r4 < 0)) then
    some (r1, 2)
  else
  bif (b.kind == 2) then
    (sL20Drop a.cells r4).bind fun r7 =>
    some (GNotebook.mk r7, 0)
  else
  bif (b.kind == 3) then
    (sL20Drop a.cells r4).bind fun r8 =>
    (idx a.cells r4).bind fun e9 =>
    (sL20Put r8 b.pos e9).bind fun r10 =>
    some (GNotebook.mk r10, 0)
  else
    (idx a.cells r4).bind fun e11 =>
    (sL20Cell e11 b).bind fun r12 =>
    bif (r12.2 == 0) then
      (idx r1.cells r4).bind fun _ =>
      (r1.cells[r4.toNat]?).bind fun e14 =>
      some (GNotebook.mk (r1.cells.set r4.toNat r12.1), r12.2)
    else
      some (r1, r12.2)
noncomputable def sApplyEditFS : Fsp := { fid := 79, ps := [⟨true, .base .notebook⟩, ⟨true, .base .edit⟩], rs := [⟨true, .base .notebook⟩, ⟨false, .base .int⟩], ex := true, fn := fun x => sApplyEdit x.1 x.2 }
noncomputable def sApplyBatch (a : GNotebook) (b : List GEdit) : Option (GNotebook × Int) :=
  (sL17Copy a).bind fun r1 =>
  loopD (fun (x2 : (List GEdit) × (List GCell) × (List GCell) × (List GCell) × Int) =>
    bif (decide (x2.2.2.2.2 < (x2.1.length : Int))) then
      (idx x2.1 x2.2.2.2.2).bind fun e3 =>
      (sApplyEdit (GNotebook.mk x2.2.2.2.1) e3).bind fun r4 =>
      bif (r4.2 != 0) then
        (sL17Copy (GNotebook.mk x2.2.1)).bind fun r5 =>
        some (.inr (r5, x2.2.2.2.2))
      else
        some (.inl (x2.1, x2.2.1, x2.2.2.1, r4.1.cells, w64 (x2.2.2.2.2 + 1)))
    else
      some (.inr (GNotebook.mk x2.2.2.2.1, (-1)))
  ) (b, a.cells, [], r1.cells, 0)
noncomputable def sApplyBatchFS : Fsp := { fid := 31, ps := [⟨true, .base .notebook⟩, ⟨false, .list (.base .edit)⟩], rs := [⟨true, .base .notebook⟩, ⟨false, .base .int⟩], ex := true, fn := fun x => sApplyBatch x.1 x.2 }
noncomputable def sL14Copy (a : GWorld) : Option (GWorld) :=
  (gd (0 + a.files.length)).bind fun _ =>
  some (GWorld.mk a.clock a.seed ([] ++ a.files))
noncomputable def sL14CopyFS : Fsp := { fid := 80, ps := [⟨true, .base .world⟩], rs := [⟨true, .base .world⟩], ex := true, fn := fun x => sL14Copy x }
noncomputable def sL3Row (a : GRow) : Option (GRow) :=
  (gd (0 + a.cells.length)).bind fun _ =>
  (gd (0 + a.orig.length)).bind fun _ =>
  some (GRow.mk ([] ++ a.cells) ([] ++ a.orig))
noncomputable def sL3RowFS : Fsp := { fid := 175, ps := [⟨true, .base .row⟩], rs := [⟨true, .base .row⟩], ex := true, fn := fun x => sL3Row x }
noncomputable def sL3CopyB (rsL3Copy : GVal → Option (GVal)) (a : GVal) : Option (GVal) :=
  (gd (0 + a.columns.length)).bind fun _ =>
  loopD (fun (x1 : Int × Int × Int × Str × (List GVal) × (List Str) × (List GRow) × Int × Int × Int × Str × (List GVal) × (List Str) × (List GRow) × Int × Int × Int × Str × (List GVal) × (List Str) × (List GRow) × Int) =>
    bif (decide (x1.2.2.2.2.2.2.2.2.2.2.2.2.2.2.2.2.2.2.2.2.2 < (x1.2.2.2.2.1.length : Int))) then
      (idx x1.2.2.2.2.1 x1.2.2.2.2.2.2.2.2.2.2.2.2.2.2.2.2.2.2.2.2.2).bind fun e2 =>
      (rsL3Copy (reVal e2)).bind fun r3 =>
      (gd (x1.2.2.2.2.2.2.2.2.2.2.2.2.2.2.2.2.2.2.1.length + [reVal r3].length)).bind fun _ =>
      some (.inl (x1.1, x1.2.1, x1.2.2.1, x1.2.2.2.1, x1.2.2.2.2.1, x1.2.2.2.2.2.1, x1.2.2.2.2.2.2.1, x1.2.2.2.2.2.2.2.1, x1.2.2.2.2.2.2.2.2.1, x1.2.2.2.2.2.2.2.2.2.1, x1.2.2.2.2.2.2.2.2.2.2.1, x1.2.2.2.2.2.2.2.2.2.2.2.1, x1.2.2.2.2.2.2.2.2.2.2.2.2.1, x1.2.2.2.2.2.2.2.2.2.2.2.2.2.1, x1.2.2.2.2.2.2.2.2.2.2.2.2.2.2.1, x1.2.2.2.2.2.2.2.2.2.2.2.2.2.2.2.1, x1.2.2.2.2.2.2.2.2.2.2.2.2.2.2.2.2.1, x1.2.2.2.2.2.2.2.2.2.2.2.2.2.2.2.2.2.1, x1.2.2.2.2.2.2.2.2.2.2.2.2.2.2.2.2.2.2.1 ++ [reVal r3], x1.2.2.2.2.2.2.2.2.2.2.2.2.2.2.2.2.2.2.2.1, x1.2.2.2.2.2.2.2.2.2.2.2.2.2.2.2.2.2.2.2.2.1, w64 (x1.2.2.2.2.2.2.2.2.2.2.2.2.2.2.2.2.2.2.2.2.2 + 1)))
    else
      (
        loopD (fun (x4 : Int × Int × Int × Str × (List GVal) × (List Str) × (List GRow) × Int × Int × Int × Str × (List GVal) × (List Str) × (List GRow) × Int × Int × Int × Str × (List GVal) × (List Str) × (List GRow) × Int) =>
          bif (decide (x4.2.2.2.2.2.2.2.2.2.2.2.2.2.2.2.2.2.2.2.2.2 < (x4.2.2.2.2.2.2.1.length : Int))) then
            (idx x4.2.2.2.2.2.2.1 x4.2.2.2.2.2.2.2.2.2.2.2.2.2.2.2.2.2.2.2.2.2).bind fun e5 =>
            (sL3Row e5).bind fun r6 =>
            (gd (x4.2.2.2.2.2.2.2.2.2.2.2.2.2.2.2.2.2.2.2.2.1.length + [r6].length)).bind fun _ =>
            some (.inl (x4.1, x4.2.1, x4.2.2.1, x4.2.2.2.1, x4.2.2.2.2.1, x4.2.2.2.2.2.1, x4.2.2.2.2.2.2.1, x4.2.2.2.2.2.2.2.1, x4.2.2.2.2.2.2.2.2.1, x4.2.2.2.2.2.2.2.2.2.1, x4.2.2.2.2.2.2.2.2.2.2.1, x4.2.2.2.2.2.2.2.2.2.2.2.1, x4.2.2.2.2.2.2.2.2.2.2.2.2.1, x4.2.2.2.2.2.2.2.2.2.2.2.2.2.1, x4.2.2.2.2.2.2.2.2.2.2.2.2.2.2.1, x4.2.2.2.2.2.2.2.2.2.2.2.2.2.2.2.1, x4.2.2.2.2.2.2.2.2.2.2.2.2.2.2.2.2.1, x4.2.2.2.2.2.2.2.2.2.2.2.2.2.2.2.2.2.1, x4.2.2.2.2.2.2.2.2.2.2.2.2.2.2.2.2.2.2.1, x4.2.2.2.2.2.2.2.2.2.2.2.2.2.2.2.2.2.2.2.1, x4.2.2.2.2.2.2.2.2.2.2.2.2.2.2.2.2.2.2.2.2.1 ++ [r6], w64 (x4.2.2.2.2.2.2.2.2.2.2.2.2.2.2.2.2.2.2.2.2.2 + 1)))
          else
            some (.inr (GVal.mk x4.2.2.2.2.2.2.2.2.2.2.2.2.2.2.1 x4.2.2.2.2.2.2.2.2.2.2.2.2.2.2.2.1 x4.2.2.2.2.2.2.2.2.2.2.2.2.2.2.2.2.1 x4.2.2.2.2.2.2.2.2.2.2.2.2.2.2.2.2.2.1 x4.2.2.2.2.2.2.2.2.2.2.2.2.2.2.2.2.2.2.1 x4.2.2.2.2.2.2.2.2.2.2.2.2.2.2.2.2.2.2.2.1 x4.2.2.2.2.2.2.2.2.2.2.2.2.2.2.2.2.2.2.2.2.1))
        ) (x1.1, x1.2.1, x1.2.2.1, x1.2.2.2.1, x1.2.2.2.2.1, x1.2.2.2.2.2.1, x1.2.2.2.2.2.2.1, x1.2.2.2.2.2.2.2.1, x1.2.2.2.2.2.2.2.2.1, x1.2.2.2.2.2.2.2.2.2.1, x1.2.2.2.2.2.2.2.2.2.2.1, x1.2.2.2.2.2.2.2.2.2.2.2.1, x1.2.2.2.2.2.2.2.2.2.2.2.2.1, x1.2.2.2.2.2.2.2.2.2.2.2.2.2.1, x1.2.2.2.2.2.2.2.2.2.2.2.2.2.2.1, x1.2.2.2.2.2.2.2.2.2.2.2.2.2.2.2.1, x1.2.2.2.2.2.2.2.2.2.2.2.2.2.2.2.2.1, x1.2.2.2.2.2.2.2.2.2.2.2.2.2.2.2.2.2.1, x1.2.2.2.2.2.2.2.2.2.2.2.2.2.2.2.2.2.2.1, x1.2.2.2.2.2.2.2.2.2.2.2.2.2.2.2.2.2.2.2.1, x1.2.2.2.2.2.2.2.2.2.2.2.2.2.2.2.2.2.2.2.2.1, 0)
      ).bind fun r => some (.inr r)
  ) (a.kind, a.n, a.step, a.text, a.list, a.columns, a.rows, 0, 0, 0, [], [], [], [], a.kind, a.n, a.step, a.text, [], [] ++ a.columns, [], 0)
noncomputable def sL3CopyG : Nat → (GVal → Option (GVal))
  | 0 => fun _ => none
  | n + 1 => sL3CopyB (sL3CopyG n)
noncomputable def sL3Copy (a : GVal) : Option (GVal) := (sL3CopyG (siz a + 1)) a
noncomputable def sL3CopyFS : Fsp := { fid := 139, ps := [⟨true, .base .val⟩], rs := [⟨true, .base .val⟩], ex := true, fn := fun x => sL3Copy x }
noncomputable def sL3CopyFSN (n : Nat) : Fsp := { fid := 139, ps := [⟨true, .base .val⟩], rs := [⟨true, .base .val⟩], ex := true, fn := fun x => (sL3CopyG n) x }
noncomputable def sL16Read (a : GRead) : Option (GRead) :=
  (sL3Copy (reVal a.result)).bind fun r1 =>
  some (GRead.mk a.kind a.n a.time a.text (reVal r1))
noncomputable def sL16ReadFS : Fsp := { fid := 165, ps := [⟨true, .base .read⟩], rs := [⟨true, .base .read⟩], ex := true, fn := fun x => sL16Read x }
noncomputable def sL16Reads (a : List GRead) : Option ((List GRead)) :=
  loopD (fun (x1 : (List GRead) × (List GRead) × Int) =>
    bif (decide (x1.2.2 < (x1.1.length : Int))) then
      (idx x1.1 x1.2.2).bind fun e2 =>
      (sL16Read (reRead e2)).bind fun r3 =>
      (gd (x1.2.1.length + [reRead r3].length)).bind fun _ =>
      some (.inl (x1.1, x1.2.1 ++ [reRead r3], w64 (x1.2.2 + 1)))
    else
      some (.inr (x1.2.1))
  ) (a, [], 0)
noncomputable def sL16ReadsFS : Fsp := { fid := 123, ps := [⟨false, .list (.base .read)⟩], rs := [⟨false, .list (.base .read)⟩], ex := true, fn := fun x => sL16Reads x }
noncomputable def sL26Copy (a : List GTape) : Option ((List GTape)) :=
  loopD (fun (x1 : (List GTape) × (List GTape) × Int) =>
    bif (decide (x1.2.2 < (x1.1.length : Int))) then
      (idx x1.1 x1.2.2).bind fun e2 =>
      (idx x1.1 x1.2.2).bind fun e3 =>
      (idx x1.1 x1.2.2).bind fun e4 =>
      (sL16Reads e4.reads).bind fun r5 =>
      (gd (x1.2.1.length + [GTape.mk e2.cell e3.version r5].length)).bind fun _ =>
      some (.inl (x1.1, x1.2.1 ++ [GTape.mk e2.cell e3.version r5], w64 (x1.2.2 + 1)))
    else
      some (.inr (x1.2.1))
  ) (a, [], 0)
noncomputable def sL26CopyFS : Fsp := { fid := 81, ps := [⟨false, .list (.base .tape)⟩], rs := [⟨false, .list (.base .tape)⟩], ex := true, fn := fun x => sL26Copy x }
noncomputable def sL28Entry (a : GEntry) : Option (GEntry) :=
  (gd (0 + a.inputs.length)).bind fun _ =>
  (sL3Copy (reVal a.value)).bind fun r1 =>
  some (GEntry.mk a.cell a.version a.stamp ([] ++ a.inputs) (reVal r1) a.has)
noncomputable def sL28EntryFS : Fsp := { fid := 82, ps := [⟨true, .base .entry⟩], rs := [⟨true, .base .entry⟩], ex := true, fn := fun x => sL28Entry x }
noncomputable def sL28Copy (a : GEngine) : Option (GEngine) :=
  (sL17Copy a.notebook).bind fun r1 =>
  (sL14Copy a.world).bind fun r2 =>
  (sL26Copy a.tapes).bind fun r3 =>
  loopD (fun (x4 : (List GCell) × Int × Int × (List GFile) × (List GTape) × (List GEntry) × Int × Int × Int × (List GCell) × Int × Int × (List GFile) × (List GTape) × (List GEntry) × Int × Int × Int × (List GCell) × Int × Int × (List GFile) × (List GTape) × (List GEntry) × Int × Int × Int × Int) =>
    bif (decide (x4.2.2.2.2.2.2.2.2.2.2.2.2.2.2.2.2.2.2.2.2.2.2.2.2.2.2.2 < (x4.2.2.2.2.2.1.length : Int))) then
      (idx x4.2.2.2.2.2.1 x4.2.2.2.2.2.2.2.2.2.2.2.2.2.2.2.2.2.2.2.2.2.2.2.2.2.2.2).bind fun e5 =>
      (sL28Entry (reEntry e5)).bind fun r6 =>
      (gd (x4.2.2.2.2.2.2.2.2.2.2.2.2.2.2.2.2.2.2.2.2.2.2.2.1.length + [reEntry r6].length)).bind fun _ =>
      some (.inl (x4.1, x4.2.1, x4.2.2.1, x4.2.2.2.1, x4.2.2.2.2.1, x4.2.2.2.2.2.1, x4.2.2.2.2.2.2.1, x4.2.2.2.2.2.2.2.1, x4.2.2.2.2.2.2.2.2.1, x4.2.2.2.2.2.2.2.2.2.1, x4.2.2.2.2.2.2.2.2.2.2.1, x4.2.2.2.2.2.2.2.2.2.2.2.1, x4.2.2.2.2.2.2.2.2.2.2.2.2.1, x4.2.2.2.2.2.2.2.2.2.2.2.2.2.1, x4.2.2.2.2.2.2.2.2.2.2.2.2.2.2.1, x4.2.2.2.2.2.2.2.2.2.2.2.2.2.2.2.1, x4.2.2.2.2.2.2.2.2.2.2.2.2.2.2.2.2.1, x4.2.2.2.2.2.2.2.2.2.2.2.2.2.2.2.2.2.1, x4.2.2.2.2.2.2.2.2.2.2.2.2.2.2.2.2.2.2.1, x4.2.2.2.2.2.2.2.2.2.2.2.2.2.2.2.2.2.2.2.1, x4.2.2.2.2.2.2.2.2.2.2.2.2.2.2.2.2.2.2.2.2.1, x4.2.2.2.2.2.2.2.2.2.2.2.2.2.2.2.2.2.2.2.2.2.1, x4.2.2.2.2.2.2.2.2.2.2.2.2.2.2.2.2.2.2.2.2.2.2.1, x4.2.2.2.2.2.2.2.2.2.2.2.2.2.2.2.2.2.2.2.2.2.2.2.1 ++ [reEntry r6], x4.2.2.2.2.2.2.2.2.2.2.2.2.2.2.2.2.2.2.2.2.2.2.2.2.1, x4.2.2.2.2.2.2.2.2.2.2.2.2.2.2.2.2.2.2.2.2.2.2.2.2.2.1, x4.2.2.2.2.2.2.2.2.2.2.2.2.2.2.2.2.2.2.2.2.2.2.2.2.2.2.1, w64 (x4.2.2.2.2.2.2.2.2.2.2.2.2.2.2.2.2.2.2.2.2.2.2.2.2.2.2.2 + 1)))
    else
      some (.inr (GEngine.mk (GNotebook.mk x4.2.2.2.2.2.2.2.2.2.2.2.2.2.2.2.2.2.2.1) (GWorld.mk x4.2.2.2.2.2.2.2.2.2.2.2.2.2.2.2.2.2.2.2.1 x4.2.2.2.2.2.2.2.2.2.2.2.2.2.2.2.2.2.2.2.2.1 x4.2.2.2.2.2.2.2.2.2.2.2.2.2.2.2.2.2.2.2.2.2.1) x4.2.2.2.2.2.2.2.2.2.2.2.2.2.2.2.2.2.2.2.2.2.2.1 x4.2.2.2.2.2.2.2.2.2.2.2.2.2.2.2.2.2.2.2.2.2.2.2.1 x4.2.2.2.2.2.2.2.2.2.2.2.2.2.2.2.2.2.2.2.2.2.2.2.2.1 x4.2.2.2.2.2.2.2.2.2.2.2.2.2.2.2.2.2.2.2.2.2.2.2.2.2.1 x4.2.2.2.2.2.2.2.2.2.2.2.2.2.2.2.2.2.2.2.2.2.2.2.2.2.2.1))
  ) (a.notebook.cells, a.world.clock, a.world.seed, a.world.files, a.tapes, a.entries, a.next, a.limit, a.work, [], 0, 0, [], [], [], 0, 0, 0, r1.cells, r2.clock, r2.seed, r2.files, r3, [], a.next, a.limit, a.work, 0)
noncomputable def sL28CopyFS : Fsp := { fid := 32, ps := [⟨true, .base .engine⟩], rs := [⟨true, .base .engine⟩], ex := true, fn := fun x => sL28Copy x }
noncomputable def sEditEngine (a : GEngine) (b : GEdit) : Option (GEngine × Int) :=
  (sApplyEdit a.notebook b).bind fun r1 =>
  (sL28Copy a).bind fun r2 =>
  bif (r1.2 != 0) then
    some (r2, r1.2)
  else
  loopD (fun (x3 : (List GCell) × Int × Int × (List GFile) × (List GTape) × (List GEntry) × Int × Int × Int × (List GCell) × Int × Int × (List GFile) × (List GTape) × (List GEntry) × Int × Int × Int × (List GCell) × Int × Int × (List GFile) × (List GTape) × (List GEntry) × Int × Int × Int × Int) =>
    bif (decide (x3.2.2.2.2.2.2.2.2.2.2.2.2.2.2.2.2.2.2.2.2.2.2.2.2.2.2.2 < (x3.2.2.2.2.2.1.length : Int))) then
      (idx x3.2.2.2.2.2.1 x3.2.2.2.2.2.2.2.2.2.2.2.2.2.2.2.2.2.2.2.2.2.2.2.2.2.2.2).bind fun e4 =>
      (sCellIndex (GNotebook.mk x3.2.2.2.2.2.2.2.2.2.2.2.2.2.2.2.2.2.2.1) e4.cell).bind fun r5 =>
      bif (decide (r5 ≥ 0)) then
        (idx x3.2.2.2.2.2.1 x3.2.2.2.2.2.2.2.2.2.2.2.2.2.2.2.2.2.2.2.2.2.2.2.2.2.2.2).bind fun e6 =>
        (sL28Entry (reEntry e6)).bind fun r7 =>
        (gd (x3.2.2.2.2.2.2.2.2.2.2.2.2.2.2.2.2.2.2.2.2.2.2.2.1.length + [reEntry r7].length)).bind fun _ =>
        some (.inl (x3.1, x3.2.1, x3.2.2.1, x3.2.2.2.1, x3.2.2.2.2.1, x3.2.2.2.2.2.1, x3.2.2.2.2.2.2.1, x3.2.2.2.2.2.2.2.1, x3.2.2.2.2.2.2.2.2.1, x3.2.2.2.2.2.2.2.2.2.1, x3.2.2.2.2.2.2.2.2.2.2.1, x3.2.2.2.2.2.2.2.2.2.2.2.1, x3.2.2.2.2.2.2.2.2.2.2.2.2.1, x3.2.2.2.2.2.2.2.2.2.2.2.2.2.1, x3.2.2.2.2.2.2.2.2.2.2.2.2.2.2.1, x3.2.2.2.2.2.2.2.2.2.2.2.2.2.2.2.1, x3.2.2.2.2.2.2.2.2.2.2.2.2.2.2.2.2.1, x3.2.2.2.2.2.2.2.2.2.2.2.2.2.2.2.2.2.1, x3.2.2.2.2.2.2.2.2.2.2.2.2.2.2.2.2.2.2.1, x3.2.2.2.2.2.2.2.2.2.2.2.2.2.2.2.2.2.2.2.1, x3.2.2.2.2.2.2.2.2.2.2.2.2.2.2.2.2.2.2.2.2.1, x3.2.2.2.2.2.2.2.2.2.2.2.2.2.2.2.2.2.2.2.2.2.1, x3.2.2.2.2.2.2.2.2.2.2.2.2.2.2.2.2.2.2.2.2.2.2.1, x3.2.2.2.2.2.2.2.2.2.2.2.2.2.2.2.2.2.2.2.2.2.2.2.1 ++ [reEntry r7], x3.2.2.2.2.2.2.2.2.2.2.2.2.2.2.2.2.2.2.2.2.2.2.2.2.1, x3.2.2.2.2.2.2.2.2.2.2.2.2.2.2.2.2.2.2.2.2.2.2.2.2.2.1, x3.2.2.2.2.2.2.2.2.2.2.2.2.2.2.2.2.2.2.2.2.2.2.2.2.2.2.1, w64 (x3.2.2.2.2.2.2.2.2.2.2.2.2.2.2.2.2.2.2.2.2.2.2.2.2.2.2.2 + 1)))
      else
        some (.inl (x3.1, x3.2.1, x3.2.2.1, x3.2.2.2.1, x3.2.2.2.2.1, x3.2.2.2.2.2.1, x3.2.2.2.2.2.2.1, x3.2.2.2.2.2.2.2.1, x3.2.2.2.2.2.2.2.2.1, x3.2.2.2.2.2.2.2.2.2.1, x3.2.2.2.2.2.2.2.2.2.2.1, x3.2.2.2.2.2.2.2.2.2.2.2.1, x3.2.2.2.2.2.2.2.2.2.2.2.2.1, x3.2.2.2.2.2.2.2.2.2.2.2.2.2.1, x3.2.2.2.2.2.2.2.2.2.2.2.2.2.2.1, x3.2.2.2.2.2.2.2.2.2.2.2.2.2.2.2.1, x3.2.2.2.2.2.2.2.2.2.2.2.2.2.2.2.2.1, x3.2.2.2.2.2.2.2.2.2.2.2.2.2.2.2.2.2.1, x3.2.2.2.2.2.2.2.2.2.2.2.2.2.2.2.2.2.2.1, x3.2.2.2.2.2.2.2.2.2.2.2.2.2.2.2.2.2.2.2.1, x3.2.2.2.2.2.2.2.2.2.2.2.2.2.2.2.2.2.2.2.2.1, x3.2.2.2.2.2.2.2.2.2.2.2.2.2.2.2.2.2.2.2.2.2.1, x3.2.2.2.2.2.2.2.2.2.2.2.2.2.2.2.2.2.2.2.2.2.2.1, x3.2.2.2.2.2.2.2.2.2.2.2.2.2.2.2.2.2.2.2.2.2.2.2.1, x3.2.2.2.2.2.2.2.2.2.2.2.2.2.2.2.2.2.2.2.2.2.2.2.2.1, x3.2.2.2.2.2.2.2.2.2.2.2.2.2.2.2.2.2.2.2.2.2.2.2.2.2.1, x3.2.2.2.2.2.2.2.2.2.2.2.2.2.2.2.2.2.2.2.2.2.2.2.2.2.2.1, w64 (x3.2.2.2.2.2.2.2.2.2.2.2.2.2.2.2.2.2.2.2.2.2.2.2.2.2.2.2 + 1)))
    else
      some (.inr (GEngine.mk (GNotebook.mk x3.2.2.2.2.2.2.2.2.2.2.2.2.2.2.2.2.2.2.1) (GWorld.mk x3.2.2.2.2.2.2.2.2.2.2.2.2.2.2.2.2.2.2.2.1 x3.2.2.2.2.2.2.2.2.2.2.2.2.2.2.2.2.2.2.2.2.1 x3.2.2.2.2.2.2.2.2.2.2.2.2.2.2.2.2.2.2.2.2.2.1) x3.2.2.2.2.2.2.2.2.2.2.2.2.2.2.2.2.2.2.2.2.2.2.1 x3.2.2.2.2.2.2.2.2.2.2.2.2.2.2.2.2.2.2.2.2.2.2.2.1 x3.2.2.2.2.2.2.2.2.2.2.2.2.2.2.2.2.2.2.2.2.2.2.2.2.1 x3.2.2.2.2.2.2.2.2.2.2.2.2.2.2.2.2.2.2.2.2.2.2.2.2.2.1 x3.2.2.2.2.2.2.2.2.2.2.2.2.2.2.2.2.2.2.2.2.2.2.2.2.2.2.1, 0))
  ) (a.notebook.cells, a.world.clock, a.world.seed, a.world.files, a.tapes, a.entries, a.next, a.limit, a.work, [], 0, 0, [], [], [], 0, 0, 0, r1.1.cells, r2.world.clock, r2.world.seed, r2.world.files, r2.tapes, [], r2.next, r2.limit, r2.work, 0)
noncomputable def sEditEngineFS : Fsp := { fid := 83, ps := [⟨true, .base .engine⟩, ⟨true, .base .edit⟩], rs := [⟨true, .base .engine⟩, ⟨false, .base .int⟩], ex := true, fn := fun x => sEditEngine x.1 x.2 }
noncomputable def sEditEngineAll (a : GEngine) (b : List GEdit) : Option (GEngine × (List Int)) :=
  (sL28Copy a).bind fun r1 =>
  loopD (fun (x2 : (List GEdit) × (List GCell) × Int × Int × (List GFile) × (List GTape) × (List GEntry) × Int × Int × Int × (List GCell) × Int × Int × (List GFile) × (List GTape) × (List GEntry) × Int × Int × Int × (List Int) × Int) =>
    bif (decide (x2.2.2.2.2.2.2.2.2.2.2.2.2.2.2.2.2.2.2.2.2 < (x2.1.length : Int))) then
      (idx x2.1 x2.2.2.2.2.2.2.2.2.2.2.2.2.2.2.2.2.2.2.2.2).bind fun e3 =>
      (sEditEngine (GEngine.mk (GNotebook.mk x2.2.2.2.2.2.2.2.2.2.2.1) (GWorld.mk x2.2.2.2.2.2.2.2.2.2.2.2.1 x2.2.2.2.2.2.2.2.2.2.2.2.2.1 x2.2.2.2.2.2.2.2.2.2.2.2.2.2.1) x2.2.2.2.2.2.2.2.2.2.2.2.2.2.2.1 x2.2.2.2.2.2.2.2.2.2.2.2.2.2.2.2.1 x2.2.2.2.2.2.2.2.2.2.2.2.2.2.2.2.2.1 x2.2.2.2.2.2.2.2.2.2.2.2.2.2.2.2.2.2.1 x2.2.2.2.2.2.2.2.2.2.2.2.2.2.2.2.2.2.2.1) e3).bind fun r4 =>
      (gd (x2.2.2.2.2.2.2.2.2.2.2.2.2.2.2.2.2.2.2.2.1.length + [r4.2].length)).bind fun _ =>
      some (.inl (x2.1, x2.2.1, x2.2.2.1, x2.2.2.2.1, x2.2.2.2.2.1, x2.2.2.2.2.2.1, x2.2.2.2.2.2.2.1, x2.2.2.2.2.2.2.2.1, x2.2.2.2.2.2.2.2.2.1, x2.2.2.2.2.2.2.2.2.2.1, r4.1.notebook.cells, r4.1.world.clock, r4.1.world.seed, r4.1.world.files, r4.1.tapes, r4.1.entries, r4.1.next, r4.1.limit, r4.1.work, x2.2.2.2.2.2.2.2.2.2.2.2.2.2.2.2.2.2.2.2.1 ++ [r4.2], w64 (x2.2.2.2.2.2.2.2.2.2.2.2.2.2.2.2.2.2.2.2.2 + 1)))
    else
      some (.inr (GEngine.mk (GNotebook.mk x2.2.2.2.2.2.2.2.2.2.2.1) (GWorld.mk x2.2.2.2.2.2.2.2.2.2.2.2.1 x2.2.2.2.2.2.2.2.2.2.2.2.2.1 x2.2.2.2.2.2.2.2.2.2.2.2.2.2.1) x2.2.2.2.2.2.2.2.2.2.2.2.2.2.2.1 x2.2.2.2.2.2.2.2.2.2.2.2.2.2.2.2.1 x2.2.2.2.2.2.2.2.2.2.2.2.2.2.2.2.2.1 x2.2.2.2.2.2.2.2.2.2.2.2.2.2.2.2.2.2.1 x2.2.2.2.2.2.2.2.2.2.2.2.2.2.2.2.2.2.2.1, x2.2.2.2.2.2.2.2.2.2.2.2.2.2.2.2.2.2.2.2.1))
  ) (b, [], 0, 0, [], [], [], 0, 0, 0, r1.notebook.cells, r1.world.clock, r1.world.seed, r1.world.files, r1.tapes, r1.entries, r1.next, r1.limit, r1.work, [], 0)
noncomputable def sEditEngineAllFS : Fsp := { fid := 33, ps := [⟨true, .base .engine⟩, ⟨false, .list (.base .edit)⟩], rs := [⟨true, .base .engine⟩, ⟨false, .list (.base .int)⟩], ex := true, fn := fun x => sEditEngineAll x.1 x.2 }
noncomputable def sBatchEngine (a : GEngine) (b : List GEdit) : Option (GEngine × Int) :=
  (sApplyBatch a.notebook b).bind fun r1 =>
  bif (decide (r1.2 ≥ 0)) then
    (sL28Copy a).bind fun r2 =>
    some (r2, r1.2)
  else
    (sEditEngineAll a b).bind fun r3 =>
    some (r3.1, (-1))
noncomputable def sBatchEngineFS : Fsp := { fid := 7, ps := [⟨true, .base .engine⟩, ⟨false, .list (.base .edit)⟩], rs := [⟨true, .base .engine⟩, ⟨false, .base .int⟩], ex := true, fn := fun x => sBatchEngine x.1 x.2 }
noncomputable def toCell (a : GCell) : Option (GCell) :=
  some (a)
noncomputable def toCellFS : Fsp := { fid := 88, ps := [⟨true, .base .cell⟩], rs := [⟨true, .base .cell⟩], ex := true, fn := fun x => toCell x }
noncomputable def toCellS (a : List GCell) : Option ((List GCell)) :=
  (mk (a.length : Int)).bind fun m1 =>
  loopD (fun (x2 : (List GCell) × (List GCell) × Int) =>
    bif (decide (x2.2.2 < (x2.1.length : Int))) then
      (idx x2.1 x2.2.2).bind fun e3 =>
      (toCell e3).bind fun r4 =>
      (idx x2.2.1 x2.2.2).bind fun _ =>
      (x2.2.1[x2.2.2.toNat]?).bind fun e6 =>
      some (.inl (x2.1, x2.2.1.set x2.2.2.toNat r4, w64 (x2.2.2 + 1)))
    else
      some (.inr (x2.2.1))
  ) (a, List.replicate m1 (GCell.mk 0 0 0 [] [] 0), 0)
noncomputable def toCellSFS : Fsp := { fid := 84, ps := [⟨false, .list (.base .cell)⟩], rs := [⟨false, .list (.base .cell)⟩], ex := true, fn := fun x => toCellS x }
noncomputable def toNotebook (a : GNotebook) : Option (GNotebook) :=
  (toCellS a.cells).bind fun r1 =>
  some (GNotebook.mk r1)
noncomputable def toNotebookFS : Fsp := { fid := 34, ps := [⟨true, .base .notebook⟩], rs := [⟨true, .base .notebook⟩], ex := true, fn := fun x => toNotebook x }
noncomputable def toFile (a : GFile) : Option (GFile) :=
  some (a)
noncomputable def toFileFS : Fsp := { fid := 140, ps := [⟨true, .base .file⟩], rs := [⟨true, .base .file⟩], ex := true, fn := fun x => toFile x }
noncomputable def toFileS (a : List GFile) : Option ((List GFile)) :=
  (mk (a.length : Int)).bind fun m1 =>
  loopD (fun (x2 : (List GFile) × (List GFile) × Int) =>
    bif (decide (x2.2.2 < (x2.1.length : Int))) then
      (idx x2.1 x2.2.2).bind fun e3 =>
      (toFile e3).bind fun r4 =>
      (idx x2.2.1 x2.2.2).bind fun _ =>
      (x2.2.1[x2.2.2.toNat]?).bind fun e6 =>
      some (.inl (x2.1, x2.2.1.set x2.2.2.toNat r4, w64 (x2.2.2 + 1)))
    else
      some (.inr (x2.2.1))
  ) (a, List.replicate m1 (GFile.mk [] 0), 0)
noncomputable def toFileSFS : Fsp := { fid := 85, ps := [⟨false, .list (.base .file)⟩], rs := [⟨false, .list (.base .file)⟩], ex := true, fn := fun x => toFileS x }
noncomputable def toWorld (a : GWorld) : Option (GWorld) :=
  (toFileS a.files).bind fun r1 =>
  some (GWorld.mk a.clock a.seed r1)
noncomputable def toWorldFS : Fsp := { fid := 35, ps := [⟨true, .base .world⟩], rs := [⟨true, .base .world⟩], ex := true, fn := fun x => toWorld x }
noncomputable def toStringS (a : List Str) : Option ((List Str)) :=
  (mk (a.length : Int)).bind fun m1 =>
  loopD (fun (x2 : (List Str) × (List Str) × Int) =>
    bif (decide (x2.2.2 < (x2.1.length : Int))) then
      (idx x2.1 x2.2.2).bind fun e3 =>
      (idx x2.2.1 x2.2.2).bind fun _ =>
      (x2.2.1[x2.2.2.toNat]?).bind fun e5 =>
      some (.inl (x2.1, x2.2.1.set x2.2.2.toNat e3, w64 (x2.2.2 + 1)))
    else
      some (.inr (x2.2.1))
  ) (a, List.replicate m1 [], 0)
noncomputable def toStringSFS : Fsp := { fid := 178, ps := [⟨false, .list (.base .str)⟩], rs := [⟨false, .list (.base .str)⟩], ex := true, fn := fun x => toStringS x }
noncomputable def toIntS (a : List Int) : Option ((List Int)) :=
  (mk (a.length : Int)).bind fun m1 =>
  loopD (fun (x2 : (List Int) × (List Int) × Int) =>
    bif (decide (x2.2.2 < (x2.1.length : Int))) then
      (idx x2.1 x2.2.2).bind fun e3 =>
      (idx x2.2.1 x2.2.2).bind fun _ =>
      (x2.2.1[x2.2.2.toNat]?).bind fun e5 =>
      some (.inl (x2.1, x2.2.1.set x2.2.2.toNat e3, w64 (x2.2.2 + 1)))
    else
      some (.inr (x2.2.1))
  ) (a, List.replicate m1 0, 0)
noncomputable def toIntSFS : Fsp := { fid := 142, ps := [⟨false, .list (.base .int)⟩], rs := [⟨false, .list (.base .int)⟩], ex := true, fn := fun x => toIntS x }
noncomputable def toOrigin (a : GOrigin) : Option (GOrigin) :=
  some (a)
noncomputable def toOriginFS : Fsp := { fid := 226, ps := [⟨true, .base .origin⟩], rs := [⟨true, .base .origin⟩], ex := true, fn := fun x => toOrigin x }
noncomputable def toOriginS (a : List GOrigin) : Option ((List GOrigin)) :=
  (mk (a.length : Int)).bind fun m1 =>
  loopD (fun (x2 : (List GOrigin) × (List GOrigin) × Int) =>
    bif (decide (x2.2.2 < (x2.1.length : Int))) then
      (idx x2.1 x2.2.2).bind fun e3 =>
      (toOrigin e3).bind fun r4 =>
      (idx x2.2.1 x2.2.2).bind fun _ =>
      (x2.2.1[x2.2.2.toNat]?).bind fun e6 =>
      some (.inl (x2.1, x2.2.1.set x2.2.2.toNat r4, w64 (x2.2.2 + 1)))
    else
      some (.inr (x2.2.1))
  ) (a, List.replicate m1 (GOrigin.mk 0 0), 0)
noncomputable def toOriginSFS : Fsp := { fid := 209, ps := [⟨false, .list (.base .origin)⟩], rs := [⟨false, .list (.base .origin)⟩], ex := true, fn := fun x => toOriginS x }
noncomputable def toRow (a : GRow) : Option (GRow) :=
  (toIntS a.cells).bind fun r1 =>
  (toOriginS a.orig).bind fun r2 =>
  some (GRow.mk r1 r2)
noncomputable def toRowFS : Fsp := { fid := 198, ps := [⟨true, .base .row⟩], rs := [⟨true, .base .row⟩], ex := true, fn := fun x => toRow x }
noncomputable def toRowS (a : List GRow) : Option ((List GRow)) :=
  (mk (a.length : Int)).bind fun m1 =>
  loopD (fun (x2 : (List GRow) × (List GRow) × Int) =>
    bif (decide (x2.2.2 < (x2.1.length : Int))) then
      (idx x2.1 x2.2.2).bind fun e3 =>
      (toRow e3).bind fun r4 =>
      (idx x2.2.1 x2.2.2).bind fun _ =>
      (x2.2.1[x2.2.2.toNat]?).bind fun e6 =>
      some (.inl (x2.1, x2.2.1.set x2.2.2.toNat r4, w64 (x2.2.2 + 1)))
    else
      some (.inr (x2.2.1))
  ) (a, List.replicate m1 (GRow.mk [] []), 0)
noncomputable def toRowSFS : Fsp := { fid := 179, ps := [⟨false, .list (.base .row)⟩], rs := [⟨false, .list (.base .row)⟩], ex := true, fn := fun x => toRowS x }
noncomputable def toValueB (rtoValue : GVal → Option (GVal)) (rtoValueS : (List GVal) → Option ((List GVal))) (a : GVal) : Option (GVal) :=
  (rtoValueS a.list).bind fun r1 =>
  (toStringS a.columns).bind fun r2 =>
  (toRowS a.rows).bind fun r3 =>
  some (GVal.mk a.kind a.n a.step a.text r1 r2 r3)
noncomputable def toValueSB (rtoValue : GVal → Option (GVal)) (rtoValueS : (List GVal) → Option ((List GVal))) (a : List GVal) : Option ((List GVal)) :=
  (mk (a.length : Int)).bind fun m1 =>
  loopD (fun (x2 : (List GVal) × (List GVal) × Int) =>
    bif (decide (x2.2.2 < (x2.1.length : Int))) then
      (idx x2.1 x2.2.2).bind fun e3 =>
      (rtoValue (reVal e3)).bind fun r4 =>
      (idx x2.2.1 x2.2.2).bind fun _ =>
      (x2.2.1[x2.2.2.toNat]?).bind fun e6 =>
      some (.inl (x2.1, x2.2.1.set x2.2.2.toNat (reVal r4), w64 (x2.2.2 + 1)))
    else
      some (.inr (x2.2.1))
  ) (a, List.replicate m1 (GVal.mk 0 0 0 [] [] [] []), 0)
noncomputable def toValueG : Nat → (GVal → Option (GVal)) × ((List GVal) → Option ((List GVal)))
  | 0 => (fun _ => none, fun _ => none)
  | n + 1 => (toValueB (toValueG n).1 (toValueG n).2, toValueSB (toValueG n).1 (toValueG n).2)
noncomputable def toValue (a : GVal) : Option (GVal) := (toValueG (siz a + 1)).1 a
noncomputable def toValueFS : Fsp := { fid := 143, ps := [⟨true, .base .val⟩], rs := [⟨true, .base .val⟩], ex := true, fn := fun x => toValue x }
noncomputable def toValueFSN (n : Nat) : Fsp := { fid := 143, ps := [⟨true, .base .val⟩], rs := [⟨true, .base .val⟩], ex := true, fn := fun x => (toValueG n).1 x }
noncomputable def toValueS (a : List GVal) : Option ((List GVal)) := (toValueG (siz a + 1)).2 a
noncomputable def toValueSFS : Fsp := { fid := 177, ps := [⟨false, .list (.base .val)⟩], rs := [⟨false, .list (.base .val)⟩], ex := true, fn := fun x => toValueS x }
noncomputable def toValueSFSN (n : Nat) : Fsp := { fid := 177, ps := [⟨false, .list (.base .val)⟩], rs := [⟨false, .list (.base .val)⟩], ex := true, fn := fun x => (toValueG n).2 x }
noncomputable def toRead (a : GRead) : Option (GRead) :=
  (toValue (reVal a.result)).bind fun r1 =>
  some (GRead.mk a.kind a.n a.time a.text (reVal r1))
noncomputable def toReadFS : Fsp := { fid := 176, ps := [⟨true, .base .read⟩], rs := [⟨true, .base .read⟩], ex := true, fn := fun x => toRead x }
noncomputable def toReadS (a : List GRead) : Option ((List GRead)) :=
  (mk (a.length : Int)).bind fun m1 =>
  loopD (fun (x2 : (List GRead) × (List GRead) × Int) =>
    bif (decide (x2.2.2 < (x2.1.length : Int))) then
      (idx x2.1 x2.2.2).bind fun e3 =>
      (toRead (reRead e3)).bind fun r4 =>
      (idx x2.2.1 x2.2.2).bind fun _ =>
      (x2.2.1[x2.2.2.toNat]?).bind fun e6 =>
      some (.inl (x2.1, x2.2.1.set x2.2.2.toNat (reRead r4), w64 (x2.2.2 + 1)))
    else
      some (.inr (x2.2.1))
  ) (a, List.replicate m1 (GRead.mk 0 0 0 [] (GVal.mk 0 0 0 [] [] [] [])), 0)
noncomputable def toReadSFS : Fsp := { fid := 141, ps := [⟨false, .list (.base .read)⟩], rs := [⟨false, .list (.base .read)⟩], ex := true, fn := fun x => toReadS x }
noncomputable def toTape (a : GTape) : Option (GTape) :=
  (toReadS a.reads).bind fun r1 =>
  some (GTape.mk a.cell a.version r1)
noncomputable def toTapeFS : Fsp := { fid := 86, ps := [⟨true, .base .tape⟩], rs := [⟨true, .base .tape⟩], ex := true, fn := fun x => toTape x }
noncomputable def toTapeS (a : List GTape) : Option ((List GTape)) :=
  (mk (a.length : Int)).bind fun m1 =>
  loopD (fun (x2 : (List GTape) × (List GTape) × Int) =>
    bif (decide (x2.2.2 < (x2.1.length : Int))) then
      (idx x2.1 x2.2.2).bind fun e3 =>
      (toTape e3).bind fun r4 =>
      (idx x2.2.1 x2.2.2).bind fun _ =>
      (x2.2.1[x2.2.2.toNat]?).bind fun e6 =>
      some (.inl (x2.1, x2.2.1.set x2.2.2.toNat r4, w64 (x2.2.2 + 1)))
    else
      some (.inr (x2.2.1))
  ) (a, List.replicate m1 (GTape.mk 0 0 []), 0)
noncomputable def toTapeSFS : Fsp := { fid := 36, ps := [⟨false, .list (.base .tape)⟩], rs := [⟨false, .list (.base .tape)⟩], ex := true, fn := fun x => toTapeS x }
noncomputable def toEntry (a : GEntry) : Option (GEntry) :=
  (toIntS a.inputs).bind fun r1 =>
  (toValue (reVal a.value)).bind fun r2 =>
  some (GEntry.mk a.cell a.version a.stamp r1 (reVal r2) a.has)
noncomputable def toEntryFS : Fsp := { fid := 87, ps := [⟨true, .base .entry⟩], rs := [⟨true, .base .entry⟩], ex := true, fn := fun x => toEntry x }
noncomputable def toEntryS (a : List GEntry) : Option ((List GEntry)) :=
  (mk (a.length : Int)).bind fun m1 =>
  loopD (fun (x2 : (List GEntry) × (List GEntry) × Int) =>
    bif (decide (x2.2.2 < (x2.1.length : Int))) then
      (idx x2.1 x2.2.2).bind fun e3 =>
      (toEntry (reEntry e3)).bind fun r4 =>
      (idx x2.2.1 x2.2.2).bind fun _ =>
      (x2.2.1[x2.2.2.toNat]?).bind fun e6 =>
      some (.inl (x2.1, x2.2.1.set x2.2.2.toNat (reEntry r4), w64 (x2.2.2 + 1)))
    else
      some (.inr (x2.2.1))
  ) (a, List.replicate m1 (GEntry.mk 0 0 0 [] (GVal.mk 0 0 0 [] [] [] []) false), 0)
noncomputable def toEntrySFS : Fsp := { fid := 37, ps := [⟨false, .list (.base .entry)⟩], rs := [⟨false, .list (.base .entry)⟩], ex := true, fn := fun x => toEntryS x }
noncomputable def toEngine (a : GEngine) : Option (GEngine) :=
  (toNotebook a.notebook).bind fun r1 =>
  (toWorld a.world).bind fun r2 =>
  (toTapeS a.tapes).bind fun r3 =>
  (toEntryS a.entries).bind fun r4 =>
  some (GEngine.mk r1 r2 r3 r4 a.next a.limit a.work)
noncomputable def toEngineFS : Fsp := { fid := 8, ps := [⟨true, .base .engine⟩], rs := [⟨true, .base .engine⟩], ex := true, fn := fun x => toEngine x }
noncomputable def toEdit (a : GEdit) : Option (GEdit) :=
  (toCell a.cell).bind fun r1 =>
  some (GEdit.mk a.kind a.pos r1)
noncomputable def toEditFS : Fsp := { fid := 38, ps := [⟨true, .base .edit⟩], rs := [⟨true, .base .edit⟩], ex := true, fn := fun x => toEdit x }
noncomputable def toEditS (a : List GEdit) : Option ((List GEdit)) :=
  (mk (a.length : Int)).bind fun m1 =>
  loopD (fun (x2 : (List GEdit) × (List GEdit) × Int) =>
    bif (decide (x2.2.2 < (x2.1.length : Int))) then
      (idx x2.1 x2.2.2).bind fun e3 =>
      (toEdit e3).bind fun r4 =>
      (idx x2.2.1 x2.2.2).bind fun _ =>
      (x2.2.1[x2.2.2.toNat]?).bind fun e6 =>
      some (.inl (x2.1, x2.2.1.set x2.2.2.toNat r4, w64 (x2.2.2 + 1)))
    else
      some (.inr (x2.2.1))
  ) (a, List.replicate m1 (GEdit.mk 0 0 (GCell.mk 0 0 0 [] [] 0)), 0)
noncomputable def toEditSFS : Fsp := { fid := 9, ps := [⟨false, .list (.base .edit)⟩], rs := [⟨false, .list (.base .edit)⟩], ex := true, fn := fun x => toEditS x }
noncomputable def iCopyNotebook (a : GNotebook) : Option (GNotebook) :=
  (gd (0 + a.cells.length)).bind fun _ =>
  some (GNotebook.mk ([] ++ a.cells))
noncomputable def iCopyNotebookFS : Fsp := { fid := 89, ps := [⟨true, .base .notebook⟩], rs := [⟨true, .base .notebook⟩], ex := true, fn := fun x => iCopyNotebook x }
noncomputable def iWithin (a : Int) (b : Int) (c : Int) : Option (Bool) :=
  bif (decide (b ≤ a)) then
    some ((decide (a ≤ c)))
  else
    some (false)
noncomputable def iWithinFS : Fsp := { fid := 120, ps := [⟨false, .base .int⟩, ⟨false, .base .int⟩, ⟨false, .base .int⟩], rs := [⟨false, .base .bool⟩], ex := true, fn := fun x => iWithin x.1 x.2.1 x.2.2 }
noncomputable def iCellIndex (a : GNotebook) (b : Int) : Option (Int) :=
  loopD (fun (x1 : Int × (List GCell) × Int × Int) =>
    bif (decide (x1.2.2.2 < x1.2.2.1)) then
      (idx x1.2.1 x1.2.2.2).bind fun e2 =>
      bif (e2.id == x1.1) then
        some (.inr (x1.2.2.2))
      else
        some (.inl (x1.1, x1.2.1, x1.2.2.1, w64 (x1.2.2.2 + 1)))
    else
      some (.inr ((-1)))
  ) (b, a.cells, (a.cells.length : Int), 0)
noncomputable def iCellIndexFS : Fsp := { fid := 148, ps := [⟨true, .base .notebook⟩, ⟨false, .base .int⟩], rs := [⟨false, .base .int⟩], ex := true, fn := fun x => iCellIndex x.1 x.2 }
noncomputable def iIsPrintable (a : Str) : Option (Bool) :=
  loopD (fun (x1 : Str × Int) =>
    bif (decide (x1.2 < (x1.1.length : Int))) then
      (idx x1.1 x1.2).bind fun c2 =>
      bif (decide ((c2.toNat : Int) < 32)) then
        some (.inr (false))
      else
        (idx x1.1 x1.2).bind fun c3 =>
        bif (decide ((c3.toNat : Int) > 126)) then
          some (.inr (false))
        else
          some (.inl (x1.1, w64 (x1.2 + 1)))
    else
      some (.inr ((decide ((x1.1.length : Int) ≤ 120))))
  ) (a, 0)
noncomputable def iIsPrintableFS : Fsp := { fid := 199, ps := [⟨false, .base .str⟩], rs := [⟨false, .base .bool⟩], ex := true, fn := fun x => iIsPrintable x }
noncomputable def iIsWord (a : Str) : Option (Bool) :=
  loopD (fun (x1 : Str × Int) =>
    bif (decide (x1.2 < (x1.1.length : Int))) then
      (idx x1.1 x1.2).bind fun c2 =>
      bif (decide ((c2.toNat : Int) ≥ 97)) then
        (idx x1.1 x1.2).bind fun c3 =>
        bif (!(decide ((c3.toNat : Int) ≤ 122))) then
          bif (x1.2 == 0) then
            some (.inr (false))
          else
            (idx x1.1 x1.2).bind fun c4 =>
            bif (decide ((c4.toNat : Int) < 48)) then
              some (.inr (false))
            else
              (idx x1.1 x1.2).bind fun c5 =>
              bif (decide ((c5.toNat : Int) > 57)) then
                some (.inr (false))
              else
                some (.inl (x1.1, w64 (x1.2 + 1)))
        else
          some (.inl (x1.1, w64 (x1.2 + 1)))
      else
      bif (x1.2 == 0) then
        some (.inr (false))
      else
        (idx x1.1 x1.2).bind fun c6 =>
        bif (decide ((c6.toNat : Int) < 48)) then
          some (.inr (false))
        else
          (idx x1.1 x1.2).bind fun c7 =>
          bif (decide ((c7.toNat : Int) > 57)) then
            some (.inr (false))
          else
            some (.inl (x1.1, w64 (x1.2 + 1)))
    else
      (
        (iWithin (x1.1.length : Int) 1 8).bind fun r8 =>
        some (r8)
      ).bind fun r => some (.inr r)
  ) (a, 0)
noncomputable def iIsWordFS : Fsp := { fid := 210, ps := [⟨false, .base .str⟩], rs := [⟨false, .base .bool⟩], ex := true, fn := fun x => iIsWord x }
noncomputable def iArgumentCount (a : Str) : Option (Int) :=
  bif (a == [99, 108, 111, 99, 107]) then
    some (0)
  else
  bif (a == [108, 101, 110]) then
    some (1)
  else
  bif (a == [115, 117, 109]) then
    some (1)
  else
  bif (a == [114, 111, 119, 115]) then
    some (1)
  else
  bif (a == [99, 104, 97, 110, 99, 101]) then
    some (1)
  else
  bif (a == [102, 105, 108, 101]) then
    some (1)
  else
  bif (a == [116, 97, 107, 101]) then
    some (2)
  else
  bif (a == [115, 107, 105, 112]) then
    some (2)
  else
  bif (a == [114, 97, 110, 103, 101]) then
    some (2)
  else
  bif (a == [110, 116, 104]) then
    some (2)
  else
  bif (a == [107, 101, 101, 112]) then
    some (2)
  else
  bif (a == [99, 111, 108, 117, 109, 110]) then
    some (2)
  else
  bif (a == [116, 97, 98, 108, 101]) then
    some (2)
  else
  bif (a == [119, 104, 101, 114, 101]) then
    some (3)
  else
    bif (a == [103, 114, 111, 117, 112]) then
      some (3)
    else
      bif (a == [106, 111, 105, 110]) then
        some (3)
      else
        bif (a == [97, 100, 100]) then
          some (4)
        else
          some ((-1))
noncomputable def iArgumentCountFS : Fsp := { fid := 227, ps := [⟨false, .base .str⟩], rs := [⟨false, .base .int⟩], ex := true, fn := fun x => iArgumentCount x }
noncomputable def iIsReserved (a : Str) : Option (Bool) :=
  bif (a == [108, 101, 116]) then
    some (true)
  else
  bif (a == [105, 110]) then
    some (true)
  else
  bif (a == [105, 102]) then
    some (true)
  else
  bif (a == [116, 104, 101, 110]) then
    some (true)
  else
  bif (a == [101, 108, 115, 101]) then
    some (true)
  else
    bif (a == [102, 111, 114]) then
      some (true)
    else
      bif (a == [100, 111]) then
        some (true)
      else
        (iArgumentCount a).bind fun r1 =>
        some ((decide (r1 ≥ 0)))
noncomputable def iIsReservedFS : Fsp := { fid := 211, ps := [⟨false, .base .str⟩], rs := [⟨false, .base .bool⟩], ex := true, fn := fun x => iIsReserved x }
noncomputable def iIsValidName (a : Str) : Option (Bool) :=
  (iIsWord a).bind fun r1 =>
  bif r1 then
    (iIsReserved a).bind fun r2 =>
    some ((!r2))
  else
    some (false)
noncomputable def iIsValidNameFS : Fsp := { fid := 200, ps := [⟨false, .base .str⟩], rs := [⟨false, .base .bool⟩], ex := true, fn := fun x => iIsValidName x }
noncomputable def iIsValidCell (a : GCell) : Option (Bool) :=
  (iWithin a.id 1 999).bind fun r1 =>
  bif (!r1) then
    some (false)
  else
  (iWithin a.version 1 999).bind fun r2 =>
  bif (!r2) then
    some (false)
  else
  (iIsPrintable a.code).bind fun r3 =>
  bif (!r3) then
    some (false)
  else
  bif (a.kind == 1) then
    bif (a.name == []) then
      some ((a.n == 0))
    else
      some (false)
  else
  bif (a.kind == 2) then
    (iIsValidName a.name).bind fun r4 =>
    bif r4 then
      some ((a.n == 0))
    else
      some (false)
  else
  bif (a.kind == 4) then
    (iIsValidName a.name).bind fun r5 =>
    bif r5 then
      some ((a.n == 0))
    else
      some (false)
  else
  bif (a.kind == 3) then
    (iIsValidName a.name).bind fun r6 =>
    bif r6 then
      bif (a.code == []) then
        (iWithin a.n 0 100).bind fun r7 =>
        some (r7)
      else
        some (false)
    else
      some (false)
  else
    some (false)
noncomputable def iIsValidCellFS : Fsp := { fid := 180, ps := [⟨true, .base .cell⟩], rs := [⟨false, .base .bool⟩], ex := true, fn := fun x => iIsValidCell x }
noncomputable def iIsValidNotebook (a : GNotebook) : Option (Bool) :=
  loopD (fun (x1 : (List GCell) × (List GCell) × Int × Int) =>
    bif (decide (x1.2.2.2 < x1.2.2.1)) then
      (idx x1.2.1 x1.2.2.2).bind fun e2 =>
      (iIsValidCell e2).bind fun r3 =>
      bif (!r3) then
        some (.inr (false))
      else
        (iCellIndex (GNotebook.mk x1.1) e2.id).bind fun r4 =>
        bif (r4 != x1.2.2.2) then
          some (.inr (false))
        else
          some (.inl (x1.1, x1.2.1, x1.2.2.1, w64 (x1.2.2.2 + 1)))
    else
      some (.inr ((decide ((x1.1.length : Int) ≤ 8))))
  ) (a.cells, a.cells, (a.cells.length : Int), 0)
noncomputable def iIsValidNotebookFS : Fsp := { fid := 144, ps := [⟨true, .base .notebook⟩], rs := [⟨false, .base .bool⟩], ex := true, fn := fun x => iIsValidNotebook x }
noncomputable def iInserted (a : List GCell) (b : Int) (c : GCell) : Option ((List GCell)) :=
  (eff.cutL a none (some (if (if (a.length : Int) < b then (a.length : Int) else b) > 0 then (if (a.length : Int) < b then (a.length : Int) else b) else 0))).bind fun r1 =>
  (gd (0 + r1.length)).bind fun _ =>
  (gd (([] ++ r1).length + [c].length)).bind fun _ =>
  (eff.cutL a (some (if (if (a.length : Int) < b then (a.length : Int) else b) > 0 then (if (a.length : Int) < b then (a.length : Int) else b) else 0)) none).bind fun r2 =>
  (gd ((([] ++ r1) ++ [c]).length + r2.length)).bind fun _ =>
  some ((([] ++ r1) ++ [c]) ++ r2)
noncomputable def iInsertedFS : Fsp := { fid := 181, ps := [⟨false, .list (.base .cell)⟩, ⟨false, .base .int⟩, ⟨true, .base .cell⟩], rs := [⟨false, .list (.base .cell)⟩], ex := true, fn := fun x => iInserted x.1 x.2.1 x.2.2 }
noncomputable def iRemoved (a : List GCell) (b : Int) : Option ((List GCell)) :=
  (eff.cutL a none (some b)).bind fun r1 =>
  (gd (0 + r1.length)).bind fun _ =>
  (eff.cutL a (some (w64 (b + 1))) none).bind fun r2 =>
  (gd (([] ++ r1).length + r2.length)).bind fun _ =>
  some (([] ++ r1) ++ r2)
noncomputable def iRemovedFS : Fsp := { fid := 182, ps := [⟨false, .list (.base .cell)⟩, ⟨false, .base .int⟩], rs := [⟨false, .list (.base .cell)⟩], ex := true, fn := fun x => iRemoved x.1 x.2 }
noncomputable def iChange (a : GNotebook) (b : GEdit) : Option (GNotebook × Int) :=
  (iCellIndex a b.cell.id).bind fun r1 =>
  bif (b.kind == 1) then
    (iIsValidCell b.cell).bind fun r2 =>
    bif (!r2) then
      some (a, 1)
    else
      bif (decide (r1 ≥ 0)) then
        some (a, 3)
      else
        bif (decide ((a.cells.length : Int) ≥ 8)) then
          some (a, 4)
        else
          (iInserted a.cells b.pos b.cell).bind fun r3 =>
          some (GNotebook.mk r3, 0)
  else
  bif (decide (r1 < 0)) then
    some (a, 2)
  else
  (idx a.cells r1).bind fun e4 =>
  bif (b.kind == 2) then
    (iRemoved a.cells r1).bind fun r5 =>
    some (GNotebook.mk r5, 0)
  else
  bif (b.kind == 3) then
    (iRemoved a.cells r1).bind fun r6 =>
    (iInserted r6 b.pos e4).bind fun r7 =>
    some (GNotebook.mk r7, 0)
  else
  bif (b.kind == 5) then
    bif (e4.kind != 3) then
      some (a, 5)
    else
      (iIsValidCell (GCell.mk e4.id e4.version e4.kind e4.name e4.code b.cell.n)).bind fun r8 =>
      bif (!r8) then
        some (a, 1)
      else
        (iCopyNotebook a).bind fun r9 =>
        (idx r9.cells r1).bind fun _ =>
        (r9.cells[r1.toNat]?).bind fun e11 =>
        some (GNotebook.mk (r9.cells.set r1.toNat (GCell.mk e4.id e4.version e4.kind e4.name e4.code b.cell.n)), 0)
  else
  bif (b.kind == 4) then
    bif (e4.kind == 3) then
      some (a, 5)
    else
    bif (b.kind == 6) then
      bif (e4.kind != 2) then
        some (a, 5)
      else
      bif (decide (e4.version ≥ 999)) then
        some (a, 6)
      else
      bif (b.kind == 4) then
        (iIsValidCell (GCell.mk e4.id (w64 (e4.version + 1)) e4.kind b.cell.name b.cell.code e4.n)).bind fun r12 =>
        bif (!r12) then
          some (a, 1)
        else
          (iCopyNotebook a).bind fun r13 =>
          (idx r13.cells r1).bind fun _ =>
          (r13.cells[r1.toNat]?).bind fun e15 =>
          some (GNotebook.mk (r13.cells.set r1.toNat (GCell.mk e4.id (w64 (e4.version + 1)) e4.kind b.cell.name b.cell.code e4.n)), 0)
      else
        (iIsValidCell (GCell.mk e4.id (w64 (e4.version + 1)) e4.kind e4.name e4.code e4.n)).bind fun r16 =>
        bif (!r16) then
          some (a, 1)
        else
          (iCopyNotebook a).bind fun r17 =>
          (idx r17.cells r1).bind fun _ =>
          (r17.cells[r1.toNat]?).bind fun e19 =>
          some (GNotebook.mk (r17.cells.set r1.toNat (GCell.mk e4.id (w64 (e4.version + 1)) e4.kind e4.name e4.code e4.n)), 0)
    else
    bif (decide (e4.version ≥ 999)) then
      some (a, 6)
    else
    bif (b.kind == 4) then
      (iIsValidCell (GCell.mk e4.id (w64 (e4.version + 1)) e4.kind b.cell.name b.cell.code e4.n)).bind fun r20 =>
      bif (!r20) then
        some (a, 1)
      else
        (iCopyNotebook a).bind fun r21 =>
        (idx r21.cells r1).bind fun _ =>
        (r21.cells[r1.toNat]?).bind fun e23 =>
        some (GNotebook.mk (r21.cells.set r1.toNat (GCell.mk e4.id (w64 (e4.version + 1)) e4.kind b.cell.name b.cell.code e4.n)), 0)
    else
      (iIsValidCell (GCell.mk e4.id (w64 (e4.version + 1)) e4.kind e4.name e4.code e4.n)).bind fun r24 =>
      bif (!r24) then
        some (a, 1)
      else
        (iCopyNotebook a).bind fun r25 =>
        (idx r25.cells r1).bind fun _ =>
        (r25.cells[r1.toNat]?).bind fun e27 =>
        some (GNotebook.mk (r25.cells.set r1.toNat (GCell.mk e4.id (w64 (e4.version + 1)) e4.kind e4.name e4.code e4.n)), 0)
  else
  bif (b.kind == 6) then
    bif (e4.kind != 2) then
      some (a, 5)
    else
    bif (decide (e4.version ≥ 999)) then
      some (a, 6)
    else
    bif (b.kind == 4) then
      (iIsValidCell (GCell.mk e4.id (w64 (e4.version + 1)) e4.kind b.cell.name b.cell.code e4.n)).bind fun r28 =>
      bif (!r28) then
        some (a, 1)
      else
        (iCopyNotebook a).bind fun r29 =>
        (idx r29.cells r1).bind fun _ =>
        (r29.cells[r1.toNat]?).bind fun e31 =>
        some (GNotebook.mk (r29.cells.set r1.toNat (GCell.mk e4.id (w64 (e4.version + 1)) e4.kind b.cell.name b.cell.code e4.n)), 0)
    else
      (iIsValidCell (GCell.mk e4.id (w64 (e4.version + 1)) e4.kind e4.name e4.code e4.n)).bind fun r32 =>
      bif (!r32) then
        some (a, 1)
      else
        (iCopyNotebook a).bind fun r33 =>
        (idx r33.cells r1).bind fun _ =>
        (r33.cells[r1.toNat]?).bind fun e35 =>
        some (GNotebook.mk (r33.cells.set r1.toNat (GCell.mk e4.id (w64 (e4.version + 1)) e4.kind e4.name e4.code e4.n)), 0)
  else
  bif (decide (e4.version ≥ 999)) then
    some (a, 6)
  else
  bif (b.kind == 4) then
    (iIsValidCell (GCell.mk e4.id (w64 (e4.version + 1)) e4.kind b.cell.name b.cell.code e4.n)).bind fun r36 =>
    bif (!r36) then
      some (a, 1)
    else
      (iCopyNotebook a).bind fun r37 =>
      (idx r37.cells r1).bind fun _ =>
      (r37.cells[r1.toNat]?).bind fun e39 =>
      some (GNotebook.mk (r37.cells.set r1.toNat (GCell.mk e4.id (w64 (e4.version + 1)) e4.kind b.cell.name b.cell.code e4.n)), 0)
  else
    (iIsValidCell (GCell.mk e4.id (w64 (e4.version + 1)) e4.kind e4.name e4.code e4.n)).bind fun r40 =>
    bif (!r40) then
      some (a, 1)
    else
      (iCopyNotebook a).bind fun r41 =>
      (idx r41.cells r1).bind fun _ =>
      (r41.cells[r1.toNat]?).bind fun e43 =>
      some (GNotebook.mk (r41.cells.set r1.toNat (GCell.mk e4.id (w64 (e4.version + 1)) e4.kind e4.name e4.code e4.n)), 0)
noncomputable def iChangeFS : Fsp := { fid := 145, ps := [⟨true, .base .notebook⟩, ⟨true, .base .edit⟩], rs := [⟨true, .base .notebook⟩, ⟨false, .base .int⟩], ex := false, fn := fun x => iChange x.1 x.2 }
noncomputable def iApplyEdit (a : GNotebook) (b : GEdit) : Option (GNotebook × Int) :=
  (iIsValidNotebook a).bind fun r1 =>
  bif (!r1) then
    (iCopyNotebook a).bind fun r2 =>
    some (r2, 1)
  else
    (iWithin b.kind 1 6).bind fun r3 =>
    bif (!r3) then
      (iCopyNotebook a).bind fun r4 =>
      some (r4, 1)
    else
      (iChange a b).bind fun r5 =>
      (iCopyNotebook r5.1).bind fun r6 =>
      some (r6, r5.2)
noncomputable def iApplyEditFS : Fsp := { fid := 90, ps := [⟨true, .base .notebook⟩, ⟨true, .base .edit⟩], rs := [⟨true, .base .notebook⟩, ⟨false, .base .int⟩], ex := true, fn := fun x => iApplyEdit x.1 x.2 }
noncomputable def iApplyBatch (a : GNotebook) (b : List GEdit) : Option (GNotebook × Int) :=
  (iCopyNotebook a).bind fun r1 =>
  loopD (fun (x2 : (List GCell) × (List GCell) × (List GCell) × (List GEdit) × Int × Int) =>
    bif (decide (x2.2.2.2.2.2 < x2.2.2.2.2.1)) then
      (idx x2.2.2.2.1 x2.2.2.2.2.2).bind fun e3 =>
      (iApplyEdit (GNotebook.mk x2.2.2.1) e3).bind fun r4 =>
      bif (r4.2 != 0) then
        (iCopyNotebook (GNotebook.mk x2.1)).bind fun r5 =>
        some (.inr (r5, x2.2.2.2.2.2))
      else
        some (.inl (x2.1, x2.2.1, r4.1.cells, x2.2.2.2.1, x2.2.2.2.2.1, w64 (x2.2.2.2.2.2 + 1)))
    else
      some (.inr (GNotebook.mk x2.2.2.1, (-1)))
  ) (a.cells, [], r1.cells, b, (b.length : Int), 0)
noncomputable def iApplyBatchFS : Fsp := { fid := 39, ps := [⟨true, .base .notebook⟩, ⟨false, .list (.base .edit)⟩], rs := [⟨true, .base .notebook⟩, ⟨false, .base .int⟩], ex := true, fn := fun x => iApplyBatch x.1 x.2 }
noncomputable def iCopyWorld (a : GWorld) : Option (GWorld) :=
  (gd (0 + a.files.length)).bind fun _ =>
  some (GWorld.mk a.clock a.seed ([] ++ a.files))
noncomputable def iCopyWorldFS : Fsp := { fid := 91, ps := [⟨true, .base .world⟩], rs := [⟨true, .base .world⟩], ex := true, fn := fun x => iCopyWorld x }
noncomputable def iCopyRow (a : GRow) : Option (GRow) :=
  (gd (0 + a.cells.length)).bind fun _ =>
  (gd (0 + a.orig.length)).bind fun _ =>
  some (GRow.mk ([] ++ a.cells) ([] ++ a.orig))
noncomputable def iCopyRowFS : Fsp := { fid := 147, ps := [⟨true, .base .row⟩], rs := [⟨true, .base .row⟩], ex := true, fn := fun x => iCopyRow x }
noncomputable def iCopyValueB (riCopyValue : GVal → Option (GVal)) (riCopyValues : (List GVal) → Option ((List GVal))) (a : GVal) : Option (GVal) :=
  (riCopyValues a.list).bind fun r1 =>
  (gd (0 + a.columns.length)).bind fun _ =>
  loopD (fun (x2 : Int × Int × Int × Str × (List GVal) × (List Str) × (List GRow) × Int × Int × Int × Str × (List GVal) × (List Str) × (List GRow) × (List GRow) × Int × Int) =>
    bif (decide (x2.2.2.2.2.2.2.2.2.2.2.2.2.2.2.2.2 < x2.2.2.2.2.2.2.2.2.2.2.2.2.2.2.2.1)) then
      (idx x2.2.2.2.2.2.2.2.2.2.2.2.2.2.2.1 x2.2.2.2.2.2.2.2.2.2.2.2.2.2.2.2.2).bind fun e3 =>
      (iCopyRow e3).bind fun r4 =>
      (gd (x2.2.2.2.2.2.2.2.2.2.2.2.2.2.1.length + [r4].length)).bind fun _ =>
      some (.inl (x2.1, x2.2.1, x2.2.2.1, x2.2.2.2.1, x2.2.2.2.2.1, x2.2.2.2.2.2.1, x2.2.2.2.2.2.2.1, x2.2.2.2.2.2.2.2.1, x2.2.2.2.2.2.2.2.2.1, x2.2.2.2.2.2.2.2.2.2.1, x2.2.2.2.2.2.2.2.2.2.2.1, x2.2.2.2.2.2.2.2.2.2.2.2.1, x2.2.2.2.2.2.2.2.2.2.2.2.2.1, x2.2.2.2.2.2.2.2.2.2.2.2.2.2.1 ++ [r4], x2.2.2.2.2.2.2.2.2.2.2.2.2.2.2.1, x2.2.2.2.2.2.2.2.2.2.2.2.2.2.2.2.1, w64 (x2.2.2.2.2.2.2.2.2.2.2.2.2.2.2.2.2 + 1)))
    else
      some (.inr (GVal.mk x2.2.2.2.2.2.2.2.1 x2.2.2.2.2.2.2.2.2.1 x2.2.2.2.2.2.2.2.2.2.1 x2.2.2.2.2.2.2.2.2.2.2.1 x2.2.2.2.2.2.2.2.2.2.2.2.1 x2.2.2.2.2.2.2.2.2.2.2.2.2.1 x2.2.2.2.2.2.2.2.2.2.2.2.2.2.1))
  ) (0, 0, 0, [], [], [], [], a.kind, a.n, a.step, a.text, r1, [] ++ a.columns, [], a.rows, (a.rows.length : Int), 0)
noncomputable def iCopyValuesB (riCopyValue : GVal → Option (GVal)) (riCopyValues : (List GVal) → Option ((List GVal))) (a : List GVal) : Option ((List GVal)) :=
  loopD (fun (x1 : (List GVal) × (List GVal) × Int × Int) =>
    bif (decide (x1.2.2.2 < x1.2.2.1)) then
      (idx x1.2.1 x1.2.2.2).bind fun e2 =>
      (riCopyValue (reVal e2)).bind fun r3 =>
      (gd (x1.1.length + [reVal r3].length)).bind fun _ =>
      some (.inl (x1.1 ++ [reVal r3], x1.2.1, x1.2.2.1, w64 (x1.2.2.2 + 1)))
    else
      some (.inr (x1.1))
  ) ([], a, (a.length : Int), 0)
noncomputable def iCopyValueG : Nat → (GVal → Option (GVal)) × ((List GVal) → Option ((List GVal)))
  | 0 => (fun _ => none, fun _ => none)
  | n + 1 => (iCopyValueB (iCopyValueG n).1 (iCopyValueG n).2, iCopyValuesB (iCopyValueG n).1 (iCopyValueG n).2)
noncomputable def iCopyValue (a : GVal) : Option (GVal) := (iCopyValueG (siz a + 1)).1 a
noncomputable def iCopyValueFS : Fsp := { fid := 93, ps := [⟨true, .base .val⟩], rs := [⟨true, .base .val⟩], ex := true, fn := fun x => iCopyValue x }
noncomputable def iCopyValueFSN (n : Nat) : Fsp := { fid := 93, ps := [⟨true, .base .val⟩], rs := [⟨true, .base .val⟩], ex := true, fn := fun x => (iCopyValueG n).1 x }
noncomputable def iCopyValues (a : List GVal) : Option ((List GVal)) := (iCopyValueG (siz a + 1)).2 a
noncomputable def iCopyValuesFS : Fsp := { fid := 146, ps := [⟨false, .list (.base .val)⟩], rs := [⟨false, .list (.base .val)⟩], ex := true, fn := fun x => iCopyValues x }
noncomputable def iCopyValuesFSN (n : Nat) : Fsp := { fid := 146, ps := [⟨false, .list (.base .val)⟩], rs := [⟨false, .list (.base .val)⟩], ex := true, fn := fun x => (iCopyValueG n).2 x }
noncomputable def iCopyReads (a : List GRead) : Option ((List GRead)) :=
  loopD (fun (x1 : (List GRead) × (List GRead) × Int × Int) =>
    bif (decide (x1.2.2.2 < x1.2.2.1)) then
      (idx x1.2.1 x1.2.2.2).bind fun e2 =>
      (iCopyValue (reVal e2.result)).bind fun r3 =>
      (gd (x1.1.length + [GRead.mk e2.kind e2.n e2.time e2.text (reVal r3)].length)).bind fun _ =>
      some (.inl (x1.1 ++ [GRead.mk e2.kind e2.n e2.time e2.text (reVal r3)], x1.2.1, x1.2.2.1, w64 (x1.2.2.2 + 1)))
    else
      some (.inr (x1.1))
  ) ([], a, (a.length : Int), 0)
noncomputable def iCopyReadsFS : Fsp := { fid := 122, ps := [⟨false, .list (.base .read)⟩], rs := [⟨false, .list (.base .read)⟩], ex := true, fn := fun x => iCopyReads x }
noncomputable def iCopyTapes (a : List GTape) : Option ((List GTape)) :=
  loopD (fun (x1 : (List GTape) × (List GTape) × Int × Int) =>
    bif (decide (x1.2.2.2 < x1.2.2.1)) then
      (idx x1.2.1 x1.2.2.2).bind fun e2 =>
      (iCopyReads e2.reads).bind fun r3 =>
      (gd (x1.1.length + [GTape.mk e2.cell e2.version r3].length)).bind fun _ =>
      some (.inl (x1.1 ++ [GTape.mk e2.cell e2.version r3], x1.2.1, x1.2.2.1, w64 (x1.2.2.2 + 1)))
    else
      some (.inr (x1.1))
  ) ([], a, (a.length : Int), 0)
noncomputable def iCopyTapesFS : Fsp := { fid := 92, ps := [⟨false, .list (.base .tape)⟩], rs := [⟨false, .list (.base .tape)⟩], ex := true, fn := fun x => iCopyTapes x }
noncomputable def iCopyEngine (a : GEngine) : Option (GEngine) :=
  (iCopyNotebook a.notebook).bind fun r1 =>
  (iCopyWorld a.world).bind fun r2 =>
  (iCopyTapes a.tapes).bind fun r3 =>
  loopD (fun (x4 : (List GCell) × Int × Int × (List GFile) × (List GTape) × (List GEntry) × Int × Int × Int × (List GCell) × Int × Int × (List GFile) × (List GTape) × (List GEntry) × Int × Int × Int × (List GEntry) × Int × Int) =>
    bif (decide (x4.2.2.2.2.2.2.2.2.2.2.2.2.2.2.2.2.2.2.2.2 < x4.2.2.2.2.2.2.2.2.2.2.2.2.2.2.2.2.2.2.2.1)) then
      (idx x4.2.2.2.2.2.2.2.2.2.2.2.2.2.2.2.2.2.2.1 x4.2.2.2.2.2.2.2.2.2.2.2.2.2.2.2.2.2.2.2.2).bind fun e5 =>
      (gd (0 + e5.inputs.length)).bind fun _ =>
      (iCopyValue (reVal e5.value)).bind fun r6 =>
      (gd (x4.2.2.2.2.2.2.2.2.2.2.2.2.2.2.1.length + ([GEntry.mk e5.cell e5.version e5.stamp ([] ++ e5.inputs) (reVal r6) e5.has]).length)).bind fun _ =>
      some (.inl (x4.1, x4.2.1, x4.2.2.1, x4.2.2.2.1, x4.2.2.2.2.1, x4.2.2.2.2.2.1, x4.2.2.2.2.2.2.1, x4.2.2.2.2.2.2.2.1, x4.2.2.2.2.2.2.2.2.1, x4.2.2.2.2.2.2.2.2.2.1, x4.2.2.2.2.2.2.2.2.2.2.1, x4.2.2.2.2.2.2.2.2.2.2.2.1, x4.2.2.2.2.2.2.2.2.2.2.2.2.1, x4.2.2.2.2.2.2.2.2.2.2.2.2.2.1, x4.2.2.2.2.2.2.2.2.2.2.2.2.2.2.1 ++ ([GEntry.mk e5.cell e5.version e5.stamp ([] ++ e5.inputs) (reVal r6) e5.has]), x4.2.2.2.2.2.2.2.2.2.2.2.2.2.2.2.1, x4.2.2.2.2.2.2.2.2.2.2.2.2.2.2.2.2.1, x4.2.2.2.2.2.2.2.2.2.2.2.2.2.2.2.2.2.1, x4.2.2.2.2.2.2.2.2.2.2.2.2.2.2.2.2.2.2.1, x4.2.2.2.2.2.2.2.2.2.2.2.2.2.2.2.2.2.2.2.1, w64 (x4.2.2.2.2.2.2.2.2.2.2.2.2.2.2.2.2.2.2.2.2 + 1)))
    else
      some (.inr (GEngine.mk (GNotebook.mk x4.2.2.2.2.2.2.2.2.2.1) (GWorld.mk x4.2.2.2.2.2.2.2.2.2.2.1 x4.2.2.2.2.2.2.2.2.2.2.2.1 x4.2.2.2.2.2.2.2.2.2.2.2.2.1) x4.2.2.2.2.2.2.2.2.2.2.2.2.2.1 x4.2.2.2.2.2.2.2.2.2.2.2.2.2.2.1 x4.2.2.2.2.2.2.2.2.2.2.2.2.2.2.2.1 x4.2.2.2.2.2.2.2.2.2.2.2.2.2.2.2.2.1 x4.2.2.2.2.2.2.2.2.2.2.2.2.2.2.2.2.2.1))
  ) ([], 0, 0, [], [], [], 0, 0, 0, r1.cells, r2.clock, r2.seed, r2.files, r3, [], a.next, a.limit, a.work, a.entries, (a.entries.length : Int), 0)
noncomputable def iCopyEngineFS : Fsp := { fid := 40, ps := [⟨true, .base .engine⟩], rs := [⟨true, .base .engine⟩], ex := true, fn := fun x => iCopyEngine x }
noncomputable def iEditEngine (a : GEngine) (b : GEdit) : Option (GEngine × Int) :=
  (iCopyEngine a).bind fun r1 =>
  (iApplyEdit a.notebook b).bind fun r2 =>
  bif (r2.2 != 0) then
    some (r1, r2.2)
  else
  loopD (fun (x3 : (List GCell) × Int × Int × (List GFile) × (List GTape) × (List GEntry) × Int × Int × Int × (List GCell) × Int × Int × (List GFile) × (List GTape) × ((List GEntry × Nat)) × Int × Int × Int × (List GEntry) × Int × Int) =>
    bif (decide (x3.2.2.2.2.2.2.2.2.2.2.2.2.2.2.2.2.2.2.2.2 < x3.2.2.2.2.2.2.2.2.2.2.2.2.2.2.2.2.2.2.2.1)) then
      (idx x3.2.2.2.2.2.2.2.2.2.2.2.2.2.2.1.1 x3.2.2.2.2.2.2.2.2.2.2.2.2.2.2.2.2.2.2.2.2).bind fun _ =>
      ((if x3.2.2.2.2.2.2.2.2.2.2.2.2.2.2.2.2.2.2.2.2.toNat = x3.2.2.2.2.2.2.2.2.2.2.2.2.2.2.1.2 then x3.2.2.2.2.2.2.2.2.2.2.2.2.2.2.1.1[x3.2.2.2.2.2.2.2.2.2.2.2.2.2.2.2.2.2.2.2.2.toNat]? else none)).bind fun e5 =>
      (iCellIndex (GNotebook.mk x3.2.2.2.2.2.2.2.2.2.1) e5.cell).bind fun r6 =>
      bif (decide (r6 ≥ 0)) then
        (gd (x3.2.2.2.2.2.2.2.2.2.2.2.2.2.2.2.2.2.2.1.length + [reEntry e5].length)).bind fun _ =>
        some (.inl (x3.1, x3.2.1, x3.2.2.1, x3.2.2.2.1, x3.2.2.2.2.1, x3.2.2.2.2.2.1, x3.2.2.2.2.2.2.1, x3.2.2.2.2.2.2.2.1, x3.2.2.2.2.2.2.2.2.1, x3.2.2.2.2.2.2.2.2.2.1, x3.2.2.2.2.2.2.2.2.2.2.1, x3.2.2.2.2.2.2.2.2.2.2.2.1, x3.2.2.2.2.2.2.2.2.2.2.2.2.1, x3.2.2.2.2.2.2.2.2.2.2.2.2.2.1, (x3.2.2.2.2.2.2.2.2.2.2.2.2.2.2.1.1, (x3.2.2.2.2.2.2.2.2.2.2.2.2.2.2.1.2 + 1)), x3.2.2.2.2.2.2.2.2.2.2.2.2.2.2.2.1, x3.2.2.2.2.2.2.2.2.2.2.2.2.2.2.2.2.1, x3.2.2.2.2.2.2.2.2.2.2.2.2.2.2.2.2.2.1, x3.2.2.2.2.2.2.2.2.2.2.2.2.2.2.2.2.2.2.1 ++ [reEntry e5], x3.2.2.2.2.2.2.2.2.2.2.2.2.2.2.2.2.2.2.2.1, w64 (x3.2.2.2.2.2.2.2.2.2.2.2.2.2.2.2.2.2.2.2.2 + 1)))
      else
        some (.inl (x3.1, x3.2.1, x3.2.2.1, x3.2.2.2.1, x3.2.2.2.2.1, x3.2.2.2.2.2.1, x3.2.2.2.2.2.2.1, x3.2.2.2.2.2.2.2.1, x3.2.2.2.2.2.2.2.2.1, x3.2.2.2.2.2.2.2.2.2.1, x3.2.2.2.2.2.2.2.2.2.2.1, x3.2.2.2.2.2.2.2.2.2.2.2.1, x3.2.2.2.2.2.2.2.2.2.2.2.2.1, x3.2.2.2.2.2.2.2.2.2.2.2.2.2.1, (x3.2.2.2.2.2.2.2.2.2.2.2.2.2.2.1.1, (x3.2.2.2.2.2.2.2.2.2.2.2.2.2.2.1.2 + 1)), x3.2.2.2.2.2.2.2.2.2.2.2.2.2.2.2.1, x3.2.2.2.2.2.2.2.2.2.2.2.2.2.2.2.2.1, x3.2.2.2.2.2.2.2.2.2.2.2.2.2.2.2.2.2.1, x3.2.2.2.2.2.2.2.2.2.2.2.2.2.2.2.2.2.2.1, x3.2.2.2.2.2.2.2.2.2.2.2.2.2.2.2.2.2.2.2.1, w64 (x3.2.2.2.2.2.2.2.2.2.2.2.2.2.2.2.2.2.2.2.2 + 1)))
    else
      some (.inr (GEngine.mk (GNotebook.mk x3.2.2.2.2.2.2.2.2.2.1) (GWorld.mk x3.2.2.2.2.2.2.2.2.2.2.1 x3.2.2.2.2.2.2.2.2.2.2.2.1 x3.2.2.2.2.2.2.2.2.2.2.2.2.1) x3.2.2.2.2.2.2.2.2.2.2.2.2.2.1 x3.2.2.2.2.2.2.2.2.2.2.2.2.2.2.2.2.2.2.1 x3.2.2.2.2.2.2.2.2.2.2.2.2.2.2.2.1 x3.2.2.2.2.2.2.2.2.2.2.2.2.2.2.2.2.1 x3.2.2.2.2.2.2.2.2.2.2.2.2.2.2.2.2.2.1, 0))
  ) ([], 0, 0, [], [], [], 0, 0, 0, r2.1.cells, r1.world.clock, r1.world.seed, r1.world.files, r1.tapes, (r1.entries, 0), r1.next, r1.limit, r1.work, [], (r1.entries.length : Int), 0)
noncomputable def iEditEngineFS : Fsp := { fid := 94, ps := [⟨true, .base .engine⟩, ⟨true, .base .edit⟩], rs := [⟨true, .base .engine⟩, ⟨false, .base .int⟩], ex := true, fn := fun x => iEditEngine x.1 x.2 }
noncomputable def iEditEngineAll (a : GEngine) (b : List GEdit) : Option (GEngine × (List Int)) :=
  (iCopyEngine a).bind fun r1 =>
  loopD (fun (x2 : (List GCell) × Int × Int × (List GFile) × (List GTape) × (List GEntry) × Int × Int × Int × (List GCell) × Int × Int × (List GFile) × (List GTape) × (List GEntry) × Int × Int × Int × (List Int) × (List GEdit) × Int × Int) =>
    bif (decide (x2.2.2.2.2.2.2.2.2.2.2.2.2.2.2.2.2.2.2.2.2.2 < x2.2.2.2.2.2.2.2.2.2.2.2.2.2.2.2.2.2.2.2.2.1)) then
      (idx x2.2.2.2.2.2.2.2.2.2.2.2.2.2.2.2.2.2.2.2.1 x2.2.2.2.2.2.2.2.2.2.2.2.2.2.2.2.2.2.2.2.2.2).bind fun e3 =>
      (iEditEngine (GEngine.mk (GNotebook.mk x2.2.2.2.2.2.2.2.2.2.1) (GWorld.mk x2.2.2.2.2.2.2.2.2.2.2.1 x2.2.2.2.2.2.2.2.2.2.2.2.1 x2.2.2.2.2.2.2.2.2.2.2.2.2.1) x2.2.2.2.2.2.2.2.2.2.2.2.2.2.1 x2.2.2.2.2.2.2.2.2.2.2.2.2.2.2.1 x2.2.2.2.2.2.2.2.2.2.2.2.2.2.2.2.1 x2.2.2.2.2.2.2.2.2.2.2.2.2.2.2.2.2.1 x2.2.2.2.2.2.2.2.2.2.2.2.2.2.2.2.2.2.1) e3).bind fun r4 =>
      (gd (x2.2.2.2.2.2.2.2.2.2.2.2.2.2.2.2.2.2.2.1.length + [r4.2].length)).bind fun _ =>
      some (.inl (x2.1, x2.2.1, x2.2.2.1, x2.2.2.2.1, x2.2.2.2.2.1, x2.2.2.2.2.2.1, x2.2.2.2.2.2.2.1, x2.2.2.2.2.2.2.2.1, x2.2.2.2.2.2.2.2.2.1, r4.1.notebook.cells, r4.1.world.clock, r4.1.world.seed, r4.1.world.files, r4.1.tapes, r4.1.entries, r4.1.next, r4.1.limit, r4.1.work, x2.2.2.2.2.2.2.2.2.2.2.2.2.2.2.2.2.2.2.1 ++ [r4.2], x2.2.2.2.2.2.2.2.2.2.2.2.2.2.2.2.2.2.2.2.1, x2.2.2.2.2.2.2.2.2.2.2.2.2.2.2.2.2.2.2.2.2.1, w64 (x2.2.2.2.2.2.2.2.2.2.2.2.2.2.2.2.2.2.2.2.2.2 + 1)))
    else
      some (.inr (GEngine.mk (GNotebook.mk x2.2.2.2.2.2.2.2.2.2.1) (GWorld.mk x2.2.2.2.2.2.2.2.2.2.2.1 x2.2.2.2.2.2.2.2.2.2.2.2.1 x2.2.2.2.2.2.2.2.2.2.2.2.2.1) x2.2.2.2.2.2.2.2.2.2.2.2.2.2.1 x2.2.2.2.2.2.2.2.2.2.2.2.2.2.2.1 x2.2.2.2.2.2.2.2.2.2.2.2.2.2.2.2.1 x2.2.2.2.2.2.2.2.2.2.2.2.2.2.2.2.2.1 x2.2.2.2.2.2.2.2.2.2.2.2.2.2.2.2.2.2.1, x2.2.2.2.2.2.2.2.2.2.2.2.2.2.2.2.2.2.2.1))
  ) ([], 0, 0, [], [], [], 0, 0, 0, r1.notebook.cells, r1.world.clock, r1.world.seed, r1.world.files, r1.tapes, r1.entries, r1.next, r1.limit, r1.work, [], b, (b.length : Int), 0)
noncomputable def iEditEngineAllFS : Fsp := { fid := 41, ps := [⟨true, .base .engine⟩, ⟨false, .list (.base .edit)⟩], rs := [⟨true, .base .engine⟩, ⟨false, .list (.base .int)⟩], ex := true, fn := fun x => iEditEngineAll x.1 x.2 }
noncomputable def iBatchEngine (a : GEngine) (b : List GEdit) : Option (GEngine × Int) :=
  (iApplyBatch a.notebook b).bind fun r1 =>
  bif (decide (r1.2 ≥ 0)) then
    (iCopyEngine a).bind fun r2 =>
    some (r2, r1.2)
  else
    (iEditEngineAll a b).bind fun r3 =>
    some (r3.1, (-1))
noncomputable def iBatchEngineFS : Fsp := { fid := 10, ps := [⟨true, .base .engine⟩, ⟨false, .list (.base .edit)⟩], rs := [⟨true, .base .engine⟩, ⟨false, .base .int⟩], ex := true, fn := fun x => iBatchEngine x.1 x.2 }
noncomputable def eqCell (a : GCell) (b : GCell) : Option (Bool) :=
  bif (a.id != b.id) then
    some (false)
  else
  bif (a.version != b.version) then
    some (false)
  else
  bif (a.kind != b.kind) then
    some (false)
  else
    bif (!(a.name == b.name)) then
      some (false)
    else
      bif (!(a.code == b.code)) then
        some (false)
      else
        bif (a.n != b.n) then
          some (false)
        else
          some (true)
noncomputable def eqCellFS : Fsp := { fid := 99, ps := [⟨true, .base .cell⟩, ⟨true, .base .cell⟩], rs := [⟨false, .base .bool⟩], ex := true, fn := fun x => eqCell x.1 x.2 }
noncomputable def eqCellS (a : List GCell) (b : List GCell) : Option (Bool) :=
  bif ((a.length : Int) != (b.length : Int)) then
    some (false)
  else
  loopD (fun (x1 : (List GCell) × (List GCell) × Int) =>
    bif (decide (x1.2.2 < (x1.1.length : Int))) then
      (idx x1.1 x1.2.2).bind fun e2 =>
      (idx x1.2.1 x1.2.2).bind fun e3 =>
      (eqCell e2 e3).bind fun r4 =>
      bif (!r4) then
        some (.inr (false))
      else
        some (.inl (x1.1, x1.2.1, w64 (x1.2.2 + 1)))
    else
      some (.inr (true))
  ) (a, b, 0)
noncomputable def eqCellSFS : Fsp := { fid := 95, ps := [⟨false, .list (.base .cell)⟩, ⟨false, .list (.base .cell)⟩], rs := [⟨false, .base .bool⟩], ex := true, fn := fun x => eqCellS x.1 x.2 }
noncomputable def eqNotebook (a : GNotebook) (b : GNotebook) : Option (Bool) :=
  (eqCellS a.cells b.cells).bind fun r1 =>
  bif (!r1) then
    some (false)
  else
    some (true)
noncomputable def eqNotebookFS : Fsp := { fid := 42, ps := [⟨true, .base .notebook⟩, ⟨true, .base .notebook⟩], rs := [⟨false, .base .bool⟩], ex := true, fn := fun x => eqNotebook x.1 x.2 }
noncomputable def eqFile (a : GFile) (b : GFile) : Option (Bool) :=
  bif (!(a.name == b.name)) then
    some (false)
  else
    bif (a.n != b.n) then
      some (false)
    else
      some (true)
noncomputable def eqFileFS : Fsp := { fid := 149, ps := [⟨true, .base .file⟩, ⟨true, .base .file⟩], rs := [⟨false, .base .bool⟩], ex := true, fn := fun x => eqFile x.1 x.2 }
noncomputable def eqFileS (a : List GFile) (b : List GFile) : Option (Bool) :=
  bif ((a.length : Int) != (b.length : Int)) then
    some (false)
  else
  loopD (fun (x1 : (List GFile) × (List GFile) × Int) =>
    bif (decide (x1.2.2 < (x1.1.length : Int))) then
      (idx x1.1 x1.2.2).bind fun e2 =>
      (idx x1.2.1 x1.2.2).bind fun e3 =>
      (eqFile e2 e3).bind fun r4 =>
      bif (!r4) then
        some (.inr (false))
      else
        some (.inl (x1.1, x1.2.1, w64 (x1.2.2 + 1)))
    else
      some (.inr (true))
  ) (a, b, 0)
noncomputable def eqFileSFS : Fsp := { fid := 96, ps := [⟨false, .list (.base .file)⟩, ⟨false, .list (.base .file)⟩], rs := [⟨false, .base .bool⟩], ex := true, fn := fun x => eqFileS x.1 x.2 }
noncomputable def eqWorld (a : GWorld) (b : GWorld) : Option (Bool) :=
  bif (a.clock != b.clock) then
    some (false)
  else
    bif (a.seed != b.seed) then
      some (false)
    else
      (eqFileS a.files b.files).bind fun r1 =>
      bif (!r1) then
        some (false)
      else
        some (true)
noncomputable def eqWorldFS : Fsp := { fid := 43, ps := [⟨true, .base .world⟩, ⟨true, .base .world⟩], rs := [⟨false, .base .bool⟩], ex := true, fn := fun x => eqWorld x.1 x.2 }
noncomputable def eqStringS (a : List Str) (b : List Str) : Option (Bool) :=
  bif ((a.length : Int) != (b.length : Int)) then
    some (false)
  else
  loopD (fun (x1 : (List Str) × (List Str) × Int) =>
    bif (decide (x1.2.2 < (x1.1.length : Int))) then
      (idx x1.1 x1.2.2).bind fun e2 =>
      (idx x1.2.1 x1.2.2).bind fun e3 =>
      bif (!(e2 == e3)) then
        some (.inr (false))
      else
        some (.inl (x1.1, x1.2.1, w64 (x1.2.2 + 1)))
    else
      some (.inr (true))
  ) (a, b, 0)
noncomputable def eqStringSFS : Fsp := { fid := 185, ps := [⟨false, .list (.base .str)⟩, ⟨false, .list (.base .str)⟩], rs := [⟨false, .base .bool⟩], ex := true, fn := fun x => eqStringS x.1 x.2 }
noncomputable def eqIntS (a : List Int) (b : List Int) : Option (Bool) :=
  bif ((a.length : Int) != (b.length : Int)) then
    some (false)
  else
  loopD (fun (x1 : (List Int) × (List Int) × Int) =>
    bif (decide (x1.2.2 < (x1.1.length : Int))) then
      (idx x1.1 x1.2.2).bind fun e2 =>
      (idx x1.2.1 x1.2.2).bind fun e3 =>
      bif (e2 != e3) then
        some (.inr (false))
      else
        some (.inl (x1.1, x1.2.1, w64 (x1.2.2 + 1)))
    else
      some (.inr (true))
  ) (a, b, 0)
noncomputable def eqIntSFS : Fsp := { fid := 151, ps := [⟨false, .list (.base .int)⟩, ⟨false, .list (.base .int)⟩], rs := [⟨false, .base .bool⟩], ex := true, fn := fun x => eqIntS x.1 x.2 }
noncomputable def eqOrigin (a : GOrigin) (b : GOrigin) : Option (Bool) :=
  bif (a.cell != b.cell) then
    some (false)
  else
    bif (a.row != b.row) then
      some (false)
    else
      some (true)
noncomputable def eqOriginFS : Fsp := { fid := 228, ps := [⟨true, .base .origin⟩, ⟨true, .base .origin⟩], rs := [⟨false, .base .bool⟩], ex := true, fn := fun x => eqOrigin x.1 x.2 }
noncomputable def eqOriginS (a : List GOrigin) (b : List GOrigin) : Option (Bool) :=
  bif ((a.length : Int) != (b.length : Int)) then
    some (false)
  else
  loopD (fun (x1 : (List GOrigin) × (List GOrigin) × Int) =>
    bif (decide (x1.2.2 < (x1.1.length : Int))) then
      (idx x1.1 x1.2.2).bind fun e2 =>
      (idx x1.2.1 x1.2.2).bind fun e3 =>
      (eqOrigin e2 e3).bind fun r4 =>
      bif (!r4) then
        some (.inr (false))
      else
        some (.inl (x1.1, x1.2.1, w64 (x1.2.2 + 1)))
    else
      some (.inr (true))
  ) (a, b, 0)
noncomputable def eqOriginSFS : Fsp := { fid := 212, ps := [⟨false, .list (.base .origin)⟩, ⟨false, .list (.base .origin)⟩], rs := [⟨false, .base .bool⟩], ex := true, fn := fun x => eqOriginS x.1 x.2 }
noncomputable def eqRow (a : GRow) (b : GRow) : Option (Bool) :=
  (eqIntS a.cells b.cells).bind fun r1 =>
  bif (!r1) then
    some (false)
  else
    (eqOriginS a.orig b.orig).bind fun r2 =>
    bif (!r2) then
      some (false)
    else
      some (true)
noncomputable def eqRowFS : Fsp := { fid := 201, ps := [⟨true, .base .row⟩, ⟨true, .base .row⟩], rs := [⟨false, .base .bool⟩], ex := true, fn := fun x => eqRow x.1 x.2 }
noncomputable def eqRowS (a : List GRow) (b : List GRow) : Option (Bool) :=
  bif ((a.length : Int) != (b.length : Int)) then
    some (false)
  else
  loopD (fun (x1 : (List GRow) × (List GRow) × Int) =>
    bif (decide (x1.2.2 < (x1.1.length : Int))) then
      (idx x1.1 x1.2.2).bind fun e2 =>
      (idx x1.2.1 x1.2.2).bind fun e3 =>
      (eqRow e2 e3).bind fun r4 =>
      bif (!r4) then
        some (.inr (false))
      else
        some (.inl (x1.1, x1.2.1, w64 (x1.2.2 + 1)))
    else
      some (.inr (true))
  ) (a, b, 0)
noncomputable def eqRowSFS : Fsp := { fid := 186, ps := [⟨false, .list (.base .row)⟩, ⟨false, .list (.base .row)⟩], rs := [⟨false, .base .bool⟩], ex := true, fn := fun x => eqRowS x.1 x.2 }
noncomputable def eqValueB (reqValue : GVal → GVal → Option (Bool)) (reqValueS : (List GVal) → (List GVal) → Option (Bool)) (a : GVal) (b : GVal) : Option (Bool) :=
  bif (a.kind != b.kind) then
    some (false)
  else
  bif (a.n != b.n) then
    some (false)
  else
  bif (a.step != b.step) then
    some (false)
  else
  bif (!(a.text == b.text)) then
    some (false)
  else
  (reqValueS a.list b.list).bind fun r1 =>
  bif (!r1) then
    some (false)
  else
    (eqStringS a.columns b.columns).bind fun r2 =>
    bif (!r2) then
      some (false)
    else
      (eqRowS a.rows b.rows).bind fun r3 =>
      bif (!r3) then
        some (false)
      else
        some (true)
noncomputable def eqValueSB (reqValue : GVal → GVal → Option (Bool)) (reqValueS : (List GVal) → (List GVal) → Option (Bool)) (a : List GVal) (b : List GVal) : Option (Bool) :=
  bif ((a.length : Int) != (b.length : Int)) then
    some (false)
  else
  loopD (fun (x1 : (List GVal) × (List GVal) × Int) =>
    bif (decide (x1.2.2 < (x1.1.length : Int))) then
      (idx x1.1 x1.2.2).bind fun e2 =>
      (idx x1.2.1 x1.2.2).bind fun e3 =>
      (reqValue (reVal e2) (reVal e3)).bind fun r4 =>
      bif (!r4) then
        some (.inr (false))
      else
        some (.inl (x1.1, x1.2.1, w64 (x1.2.2 + 1)))
    else
      some (.inr (true))
  ) (a, b, 0)
noncomputable def eqValueG : Nat → (GVal → GVal → Option (Bool)) × ((List GVal) → (List GVal) → Option (Bool))
  | 0 => (fun _ _ => none, fun _ _ => none)
  | n + 1 => (eqValueB (eqValueG n).1 (eqValueG n).2, eqValueSB (eqValueG n).1 (eqValueG n).2)
noncomputable def eqValue (a : GVal) (b : GVal) : Option (Bool) := (eqValueG (siz a + siz b + 1)).1 a b
noncomputable def eqValueFS : Fsp := { fid := 152, ps := [⟨true, .base .val⟩, ⟨true, .base .val⟩], rs := [⟨false, .base .bool⟩], ex := true, fn := fun x => eqValue x.1 x.2 }
noncomputable def eqValueFSN (n : Nat) : Fsp := { fid := 152, ps := [⟨true, .base .val⟩, ⟨true, .base .val⟩], rs := [⟨false, .base .bool⟩], ex := true, fn := fun x => (eqValueG n).1 x.1 x.2 }
noncomputable def eqValueS (a : List GVal) (b : List GVal) : Option (Bool) := (eqValueG (siz a + siz b + 1)).2 a b
noncomputable def eqValueSFS : Fsp := { fid := 184, ps := [⟨false, .list (.base .val)⟩, ⟨false, .list (.base .val)⟩], rs := [⟨false, .base .bool⟩], ex := true, fn := fun x => eqValueS x.1 x.2 }
noncomputable def eqValueSFSN (n : Nat) : Fsp := { fid := 184, ps := [⟨false, .list (.base .val)⟩, ⟨false, .list (.base .val)⟩], rs := [⟨false, .base .bool⟩], ex := true, fn := fun x => (eqValueG n).2 x.1 x.2 }
noncomputable def eqRead (a : GRead) (b : GRead) : Option (Bool) :=
  bif (a.kind != b.kind) then
    some (false)
  else
  bif (a.n != b.n) then
    some (false)
  else
  bif (a.time != b.time) then
    some (false)
  else
    bif (!(a.text == b.text)) then
      some (false)
    else
      (eqValue (reVal a.result) (reVal b.result)).bind fun r1 =>
      bif (!r1) then
        some (false)
      else
        some (true)
noncomputable def eqReadFS : Fsp := { fid := 183, ps := [⟨true, .base .read⟩, ⟨true, .base .read⟩], rs := [⟨false, .base .bool⟩], ex := true, fn := fun x => eqRead x.1 x.2 }
noncomputable def eqReadS (a : List GRead) (b : List GRead) : Option (Bool) :=
  bif ((a.length : Int) != (b.length : Int)) then
    some (false)
  else
  loopD (fun (x1 : (List GRead) × (List GRead) × Int) =>
    bif (decide (x1.2.2 < (x1.1.length : Int))) then
      (idx x1.1 x1.2.2).bind fun e2 =>
      (idx x1.2.1 x1.2.2).bind fun e3 =>
      (eqRead (reRead e2) (reRead e3)).bind fun r4 =>
      bif (!r4) then
        some (.inr (false))
      else
        some (.inl (x1.1, x1.2.1, w64 (x1.2.2 + 1)))
    else
      some (.inr (true))
  ) (a, b, 0)
noncomputable def eqReadSFS : Fsp := { fid := 150, ps := [⟨false, .list (.base .read)⟩, ⟨false, .list (.base .read)⟩], rs := [⟨false, .base .bool⟩], ex := true, fn := fun x => eqReadS x.1 x.2 }
noncomputable def eqTape (a : GTape) (b : GTape) : Option (Bool) :=
  bif (a.cell != b.cell) then
    some (false)
  else
    bif (a.version != b.version) then
      some (false)
    else
      (eqReadS a.reads b.reads).bind fun r1 =>
      bif (!r1) then
        some (false)
      else
        some (true)
noncomputable def eqTapeFS : Fsp := { fid := 97, ps := [⟨true, .base .tape⟩, ⟨true, .base .tape⟩], rs := [⟨false, .base .bool⟩], ex := true, fn := fun x => eqTape x.1 x.2 }
noncomputable def eqTapeS (a : List GTape) (b : List GTape) : Option (Bool) :=
  bif ((a.length : Int) != (b.length : Int)) then
    some (false)
  else
  loopD (fun (x1 : (List GTape) × (List GTape) × Int) =>
    bif (decide (x1.2.2 < (x1.1.length : Int))) then
      (idx x1.1 x1.2.2).bind fun e2 =>
      (idx x1.2.1 x1.2.2).bind fun e3 =>
      (eqTape e2 e3).bind fun r4 =>
      bif (!r4) then
        some (.inr (false))
      else
        some (.inl (x1.1, x1.2.1, w64 (x1.2.2 + 1)))
    else
      some (.inr (true))
  ) (a, b, 0)
noncomputable def eqTapeSFS : Fsp := { fid := 44, ps := [⟨false, .list (.base .tape)⟩, ⟨false, .list (.base .tape)⟩], rs := [⟨false, .base .bool⟩], ex := true, fn := fun x => eqTapeS x.1 x.2 }
noncomputable def eqEntry (a : GEntry) (b : GEntry) : Option (Bool) :=
  bif (a.cell != b.cell) then
    some (false)
  else
  bif (a.version != b.version) then
    some (false)
  else
  bif (a.stamp != b.stamp) then
    some (false)
  else
  (eqIntS a.inputs b.inputs).bind fun r1 =>
  bif (!r1) then
    some (false)
  else
    (eqValue (reVal a.value) (reVal b.value)).bind fun r2 =>
    bif (!r2) then
      some (false)
    else
      bif (!(a.has == b.has)) then
        some (false)
      else
        some (true)
noncomputable def eqEntryFS : Fsp := { fid := 98, ps := [⟨true, .base .entry⟩, ⟨true, .base .entry⟩], rs := [⟨false, .base .bool⟩], ex := true, fn := fun x => eqEntry x.1 x.2 }
noncomputable def eqEntryS (a : List GEntry) (b : List GEntry) : Option (Bool) :=
  bif ((a.length : Int) != (b.length : Int)) then
    some (false)
  else
  loopD (fun (x1 : (List GEntry) × (List GEntry) × Int) =>
    bif (decide (x1.2.2 < (x1.1.length : Int))) then
      (idx x1.1 x1.2.2).bind fun e2 =>
      (idx x1.2.1 x1.2.2).bind fun e3 =>
      (eqEntry (reEntry e2) (reEntry e3)).bind fun r4 =>
      bif (!r4) then
        some (.inr (false))
      else
        some (.inl (x1.1, x1.2.1, w64 (x1.2.2 + 1)))
    else
      some (.inr (true))
  ) (a, b, 0)
noncomputable def eqEntrySFS : Fsp := { fid := 45, ps := [⟨false, .list (.base .entry)⟩, ⟨false, .list (.base .entry)⟩], rs := [⟨false, .base .bool⟩], ex := true, fn := fun x => eqEntryS x.1 x.2 }
noncomputable def eqEngine (a : GEngine) (b : GEngine) : Option (Bool) :=
  (eqNotebook a.notebook b.notebook).bind fun r1 =>
  bif (!r1) then
    some (false)
  else
  (eqWorld a.world b.world).bind fun r2 =>
  bif (!r2) then
    some (false)
  else
  (eqTapeS a.tapes b.tapes).bind fun r3 =>
  bif (!r3) then
    some (false)
  else
  (eqEntryS a.entries b.entries).bind fun r4 =>
  bif (!r4) then
    some (false)
  else
    bif (a.next != b.next) then
      some (false)
    else
      bif (a.limit != b.limit) then
        some (false)
      else
        bif (a.work != b.work) then
          some (false)
        else
          some (true)
noncomputable def eqEngineFS : Fsp := { fid := 11, ps := [⟨true, .base .engine⟩, ⟨true, .base .engine⟩], rs := [⟨false, .base .bool⟩], ex := true, fn := fun x => eqEngine x.1 x.2 }
noncomputable def eqEdit (a : GEdit) (b : GEdit) : Option (Bool) :=
  bif (a.kind != b.kind) then
    some (false)
  else
    bif (a.pos != b.pos) then
      some (false)
    else
      (eqCell a.cell b.cell).bind fun r1 =>
      bif (!r1) then
        some (false)
      else
        some (true)
noncomputable def eqEditFS : Fsp := { fid := 46, ps := [⟨true, .base .edit⟩, ⟨true, .base .edit⟩], rs := [⟨false, .base .bool⟩], ex := true, fn := fun x => eqEdit x.1 x.2 }
noncomputable def eqEditS (a : List GEdit) (b : List GEdit) : Option (Bool) :=
  bif ((a.length : Int) != (b.length : Int)) then
    some (false)
  else
  loopD (fun (x1 : (List GEdit) × (List GEdit) × Int) =>
    bif (decide (x1.2.2 < (x1.1.length : Int))) then
      (idx x1.1 x1.2.2).bind fun e2 =>
      (idx x1.2.1 x1.2.2).bind fun e3 =>
      (eqEdit e2 e3).bind fun r4 =>
      bif (!r4) then
        some (.inr (false))
      else
        some (.inl (x1.1, x1.2.1, w64 (x1.2.2 + 1)))
    else
      some (.inr (true))
  ) (a, b, 0)
noncomputable def eqEditSFS : Fsp := { fid := 12, ps := [⟨false, .list (.base .edit)⟩, ⟨false, .list (.base .edit)⟩], rs := [⟨false, .base .bool⟩], ex := true, fn := fun x => eqEditS x.1 x.2 }
noncomputable def markText (a : Int) : Option (Str) :=
  bif (decide (a ≤ 0)) then
    some ([109, 48])
  else
    loopD (fun (x1 : Int × Str) =>
      bif (decide (x1.1 > 0)) then
        (gd ((bytesOf [w8 (w64 (48 + (x1.1.tmod 10)))]).length + x1.2.length)).bind fun _ =>
        some (.inl (w64 (x1.1.tdiv 10), (bytesOf [w8 (w64 (48 + (x1.1.tmod 10)))]) ++ x1.2))
      else
        (
          (gd ([109].length + x1.2.length)).bind fun _ =>
          some ([109] ++ x1.2)
        ).bind fun r => some (.inr r)
    ) (a, [])
noncomputable def markTextFS : Fsp := { fid := 51, ps := [⟨false, .base .int⟩], rs := [⟨false, .base .str⟩], ex := true, fn := fun x => markText x }
noncomputable def markCellS (a : List GCell) (b : Int) : Option (List GCell × Int) :=
  loopD (fun (x : List GCell × Int × Int) =>
    bif (decide (x.2.1 < (x.1.length : Int))) then
      (idx x.1 x.2.1).bind fun _ =>
      (x.1[x.2.1.toNat]?).bind fun e1 =>
      (some (x.1.set x.2.1.toNat (GCell.mk x.2.2 e1.version e1.kind e1.name e1.code e1.n))).bind fun z2 =>
      (idx z2 x.2.1).bind fun _ =>
      (z2[x.2.1.toNat]?).bind fun e3 =>
      (some (z2.set x.2.1.toNat (GCell.mk e3.id (w64 (x.2.2 + 1)) e3.kind e3.name e3.code e3.n))).bind fun z4 =>
      (idx z4 x.2.1).bind fun _ =>
      (z4[x.2.1.toNat]?).bind fun e5 =>
      (some (z4.set x.2.1.toNat (GCell.mk e5.id e5.version (w64 ((w64 (x.2.2 + 1)) + 1)) e5.name e5.code e5.n))).bind fun z6 =>
      (markText (w64 ((w64 ((w64 (x.2.2 + 1)) + 1)) + 1))).bind fun t7 =>
      (idx z6 x.2.1).bind fun _ =>
      (z6[x.2.1.toNat]?).bind fun e8 =>
      (some (z6.set x.2.1.toNat (GCell.mk e8.id e8.version e8.kind t7 e8.code e8.n))).bind fun z9 =>
      (markText (w64 ((w64 ((w64 ((w64 (x.2.2 + 1)) + 1)) + 1)) + 1))).bind fun t10 =>
      (idx z9 x.2.1).bind fun _ =>
      (z9[x.2.1.toNat]?).bind fun e11 =>
      (some (z9.set x.2.1.toNat (GCell.mk e11.id e11.version e11.kind e11.name t10 e11.n))).bind fun z12 =>
      (idx z12 x.2.1).bind fun _ =>
      (z12[x.2.1.toNat]?).bind fun e13 =>
      (some (z12.set x.2.1.toNat (GCell.mk e13.id e13.version e13.kind e13.name e13.code (w64 ((w64 ((w64 ((w64 ((w64 (x.2.2 + 1)) + 1)) + 1)) + 1)) + 1))))).bind fun z14 =>
      some (.inl (z14, w64 (x.2.1 + 1), w64 ((w64 ((w64 ((w64 ((w64 ((w64 (x.2.2 + 1)) + 1)) + 1)) + 1)) + 1)) + 1)))
    else
      some (.inr (x.1, x.2.2))
  ) (a, 0, b)
noncomputable def markCellSMS : Msp := { fid := 100, sh := ⟨false, .list (.base .cell)⟩, fn := fun x n => markCellS x n }
noncomputable def markNotebook (a : GNotebook) (b : Int) : Option (GNotebook × Int) :=
  (markCellS a.cells b).bind fun r1 =>
  some (GNotebook.mk r1.1, r1.2)
noncomputable def markNotebookMS : Msp := { fid := 47, sh := ⟨true, .base .notebook⟩, fn := fun x n => markNotebook x n }
noncomputable def markFileS (a : List GFile) (b : Int) : Option (List GFile × Int) :=
  loopD (fun (x : List GFile × Int × Int) =>
    bif (decide (x.2.1 < (x.1.length : Int))) then
      (markText x.2.2).bind fun t1 =>
      (idx x.1 x.2.1).bind fun _ =>
      (x.1[x.2.1.toNat]?).bind fun e2 =>
      (some (x.1.set x.2.1.toNat (GFile.mk t1 e2.n))).bind fun z3 =>
      (idx z3 x.2.1).bind fun _ =>
      (z3[x.2.1.toNat]?).bind fun e4 =>
      (some (z3.set x.2.1.toNat (GFile.mk e4.name (w64 (x.2.2 + 1))))).bind fun z5 =>
      some (.inl (z5, w64 (x.2.1 + 1), w64 ((w64 (x.2.2 + 1)) + 1)))
    else
      some (.inr (x.1, x.2.2))
  ) (a, 0, b)
noncomputable def markFileSMS : Msp := { fid := 101, sh := ⟨false, .list (.base .file)⟩, fn := fun x n => markFileS x n }
noncomputable def markWorld (a : GWorld) (b : Int) : Option (GWorld × Int) :=
  (markFileS a.files b).bind fun r1 =>
  some (GWorld.mk a.clock a.seed r1.1, r1.2)
noncomputable def markWorldMS : Msp := { fid := 48, sh := ⟨true, .base .world⟩, fn := fun x n => markWorld x n }
noncomputable def markStringS (a : List Str) (b : Int) : Option (List Str × Int) :=
  loopD (fun (x : List Str × Int × Int) =>
    bif (decide (x.2.1 < (x.1.length : Int))) then
      (markText x.2.2).bind fun t1 =>
      (idx x.1 x.2.1).bind fun _ =>
      (x.1[x.2.1.toNat]?).bind fun e2 =>
      (some (x.1.set x.2.1.toNat t1)).bind fun z3 =>
      some (.inl (z3, w64 (x.2.1 + 1), w64 (x.2.2 + 1)))
    else
      some (.inr (x.1, x.2.2))
  ) (a, 0, b)
noncomputable def markStringSMS : Msp := { fid := 105, sh := ⟨false, .list (.base .str)⟩, fn := fun x n => markStringS x n }
noncomputable def markIntS (a : List Int) (b : Int) : Option (List Int × Int) :=
  loopD (fun (x : List Int × Int × Int) =>
    bif (decide (x.2.1 < (x.1.length : Int))) then
      (idx x.1 x.2.1).bind fun _ =>
      (x.1[x.2.1.toNat]?).bind fun e1 =>
      (some (x.1.set x.2.1.toNat x.2.2)).bind fun z2 =>
      some (.inl (z2, w64 (x.2.1 + 1), w64 (x.2.2 + 1)))
    else
      some (.inr (x.1, x.2.2))
  ) (a, 0, b)
noncomputable def markIntSMS : Msp := { fid := 103, sh := ⟨false, .list (.base .int)⟩, fn := fun x n => markIntS x n }
noncomputable def markOriginS (a : List GOrigin) (b : Int) : Option (List GOrigin × Int) :=
  loopD (fun (x : List GOrigin × Int × Int) =>
    bif (decide (x.2.1 < (x.1.length : Int))) then
      (idx x.1 x.2.1).bind fun _ =>
      (x.1[x.2.1.toNat]?).bind fun e1 =>
      (some (x.1.set x.2.1.toNat (GOrigin.mk x.2.2 e1.row))).bind fun z2 =>
      (idx z2 x.2.1).bind fun _ =>
      (z2[x.2.1.toNat]?).bind fun e3 =>
      (some (z2.set x.2.1.toNat (GOrigin.mk e3.cell (w64 (x.2.2 + 1))))).bind fun z4 =>
      some (.inl (z4, w64 (x.2.1 + 1), w64 ((w64 (x.2.2 + 1)) + 1)))
    else
      some (.inr (x.1, x.2.2))
  ) (a, 0, b)
noncomputable def markOriginSMS : Msp := { fid := 153, sh := ⟨false, .list (.base .origin)⟩, fn := fun x n => markOriginS x n }
noncomputable def markRowS (a : List GRow) (b : Int) : Option (List GRow × Int) :=
  loopD (fun (x : List GRow × Int × Int) =>
    bif (decide (x.2.1 < (x.1.length : Int))) then
      (idx x.1 x.2.1).bind fun _ =>
      (x.1[x.2.1.toNat]?).bind fun e1 =>
      (x.1[x.2.1.toNat]?).bind fun e2 =>
      (markIntS e2.cells x.2.2).bind fun r3 =>
      (some (x.1.set x.2.1.toNat (GRow.mk r3.1 e2.orig))).bind fun z4 =>
      (idx z4 x.2.1).bind fun _ =>
      (z4[x.2.1.toNat]?).bind fun e5 =>
      (z4[x.2.1.toNat]?).bind fun e6 =>
      (markOriginS e6.orig r3.2).bind fun r7 =>
      (some (z4.set x.2.1.toNat (GRow.mk e6.cells r7.1))).bind fun z8 =>
      some (.inl (z8, w64 (x.2.1 + 1), r7.2))
    else
      some (.inr (x.1, x.2.2))
  ) (a, 0, b)
noncomputable def markRowSMS : Msp := { fid := 106, sh := ⟨false, .list (.base .row)⟩, fn := fun x n => markRowS x n }
noncomputable def markValueSB (rmarkValueS : (List GVal) → Int → Option (List GVal × Int)) (a : List GVal) (b : Int) : Option (List GVal × Int) :=
  loopD (fun (x : List GVal × Int × Int) =>
    bif (decide (x.2.1 < (x.1.length : Int))) then
      (idx x.1 x.2.1).bind fun _ =>
      (x.1[x.2.1.toNat]?).bind fun e1 =>
      (some (x.1.set x.2.1.toNat (GVal.mk x.2.2 e1.n e1.step e1.text e1.list e1.columns e1.rows))).bind fun z2 =>
      (idx z2 x.2.1).bind fun _ =>
      (z2[x.2.1.toNat]?).bind fun e3 =>
      (some (z2.set x.2.1.toNat (GVal.mk e3.kind (w64 (x.2.2 + 1)) e3.step e3.text e3.list e3.columns e3.rows))).bind fun z4 =>
      (idx z4 x.2.1).bind fun _ =>
      (z4[x.2.1.toNat]?).bind fun e5 =>
      (some (z4.set x.2.1.toNat (GVal.mk e5.kind e5.n (w64 ((w64 (x.2.2 + 1)) + 1)) e5.text e5.list e5.columns e5.rows))).bind fun z6 =>
      (markText (w64 ((w64 ((w64 (x.2.2 + 1)) + 1)) + 1))).bind fun t7 =>
      (idx z6 x.2.1).bind fun _ =>
      (z6[x.2.1.toNat]?).bind fun e8 =>
      (some (z6.set x.2.1.toNat (GVal.mk e8.kind e8.n e8.step t7 e8.list e8.columns e8.rows))).bind fun z9 =>
      (idx z9 x.2.1).bind fun _ =>
      (z9[x.2.1.toNat]?).bind fun e10 =>
      (z9[x.2.1.toNat]?).bind fun e11 =>
      (rmarkValueS e11.list (w64 ((w64 ((w64 ((w64 (x.2.2 + 1)) + 1)) + 1)) + 1))).bind fun r12 =>
      (some (z9.set x.2.1.toNat (GVal.mk e11.kind e11.n e11.step e11.text r12.1 e11.columns e11.rows))).bind fun z13 =>
      (idx z13 x.2.1).bind fun _ =>
      (z13[x.2.1.toNat]?).bind fun e14 =>
      (z13[x.2.1.toNat]?).bind fun e15 =>
      (markStringS e15.columns r12.2).bind fun r16 =>
      (some (z13.set x.2.1.toNat (GVal.mk e15.kind e15.n e15.step e15.text e15.list r16.1 e15.rows))).bind fun z17 =>
      (idx z17 x.2.1).bind fun _ =>
      (z17[x.2.1.toNat]?).bind fun e18 =>
      (z17[x.2.1.toNat]?).bind fun e19 =>
      (markRowS e19.rows r16.2).bind fun r20 =>
      (some (z17.set x.2.1.toNat (GVal.mk e19.kind e19.n e19.step e19.text e19.list e19.columns r20.1))).bind fun z21 =>
      some (.inl (z21, w64 (x.2.1 + 1), r20.2))
    else
      some (.inr (x.1, x.2.2))
  ) (a, 0, b)
noncomputable def markValueSG : Nat → (List GVal) → Int → Option (List GVal × Int)
  | 0 => fun _ _ => none
  | n + 1 => markValueSB (markValueSG n)
noncomputable def markValueS (a : List GVal) (b : Int) : Option (List GVal × Int) := markValueSG (siz a + 1) a b
noncomputable def markValueSMSN (k : Nat) : Msp := { fid := 104, sh := ⟨false, .list (.base .val)⟩, fn := fun x n => markValueSG k x n }
noncomputable def markValueSMS : Msp := { fid := 104, sh := ⟨false, .list (.base .val)⟩, fn := fun x n => markValueS x n }
noncomputable def markReadS (a : List GRead) (b : Int) : Option (List GRead × Int) :=
  loopD (fun (x : List GRead × Int × Int) =>
    bif (decide (x.2.1 < (x.1.length : Int))) then
      (idx x.1 x.2.1).bind fun _ =>
      (x.1[x.2.1.toNat]?).bind fun e1 =>
      (some (x.1.set x.2.1.toNat (GRead.mk x.2.2 e1.n e1.time e1.text (reVal e1.result)))).bind fun z2 =>
      (idx z2 x.2.1).bind fun _ =>
      (z2[x.2.1.toNat]?).bind fun e3 =>
      (some (z2.set x.2.1.toNat (GRead.mk e3.kind (w64 (x.2.2 + 1)) e3.time e3.text (reVal e3.result)))).bind fun z4 =>
      (idx z4 x.2.1).bind fun _ =>
      (z4[x.2.1.toNat]?).bind fun e5 =>
      (some (z4.set x.2.1.toNat (GRead.mk e5.kind e5.n (w64 ((w64 (x.2.2 + 1)) + 1)) e5.text (reVal e5.result)))).bind fun z6 =>
      (markText (w64 ((w64 ((w64 (x.2.2 + 1)) + 1)) + 1))).bind fun t7 =>
      (idx z6 x.2.1).bind fun _ =>
      (z6[x.2.1.toNat]?).bind fun e8 =>
      (some (z6.set x.2.1.toNat (GRead.mk e8.kind e8.n e8.time t7 (reVal e8.result)))).bind fun z9 =>
      (idx z9 x.2.1).bind fun _ =>
      (z9[x.2.1.toNat]?).bind fun e10 =>
      (some (z9.set x.2.1.toNat (GRead.mk e10.kind e10.n e10.time e10.text (GVal.mk (w64 ((w64 ((w64 ((w64 (x.2.2 + 1)) + 1)) + 1)) + 1)) e10.result.n e10.result.step e10.result.text e10.result.list e10.result.columns e10.result.rows)))).bind fun z11 =>
      (idx z11 x.2.1).bind fun _ =>
      (z11[x.2.1.toNat]?).bind fun e12 =>
      (some (z11.set x.2.1.toNat (GRead.mk e12.kind e12.n e12.time e12.text (GVal.mk e12.result.kind (w64 ((w64 ((w64 ((w64 ((w64 (x.2.2 + 1)) + 1)) + 1)) + 1)) + 1)) e12.result.step e12.result.text e12.result.list e12.result.columns e12.result.rows)))).bind fun z13 =>
      (idx z13 x.2.1).bind fun _ =>
      (z13[x.2.1.toNat]?).bind fun e14 =>
      (some (z13.set x.2.1.toNat (GRead.mk e14.kind e14.n e14.time e14.text (GVal.mk e14.result.kind e14.result.n (w64 ((w64 ((w64 ((w64 ((w64 ((w64 (x.2.2 + 1)) + 1)) + 1)) + 1)) + 1)) + 1)) e14.result.text e14.result.list e14.result.columns e14.result.rows)))).bind fun z15 =>
      (markText (w64 ((w64 ((w64 ((w64 ((w64 ((w64 ((w64 (x.2.2 + 1)) + 1)) + 1)) + 1)) + 1)) + 1)) + 1))).bind fun t16 =>
      (idx z15 x.2.1).bind fun _ =>
      (z15[x.2.1.toNat]?).bind fun e17 =>
      (some (z15.set x.2.1.toNat (GRead.mk e17.kind e17.n e17.time e17.text (GVal.mk e17.result.kind e17.result.n e17.result.step t16 e17.result.list e17.result.columns e17.result.rows)))).bind fun z18 =>
      (idx z18 x.2.1).bind fun _ =>
      (z18[x.2.1.toNat]?).bind fun e19 =>
      (z18[x.2.1.toNat]?).bind fun e20 =>
      (markValueS e20.result.list (w64 ((w64 ((w64 ((w64 ((w64 ((w64 ((w64 ((w64 (x.2.2 + 1)) + 1)) + 1)) + 1)) + 1)) + 1)) + 1)) + 1))).bind fun r21 =>
      (some (z18.set x.2.1.toNat (GRead.mk e20.kind e20.n e20.time e20.text (GVal.mk e20.result.kind e20.result.n e20.result.step e20.result.text r21.1 e20.result.columns e20.result.rows)))).bind fun z22 =>
      (idx z22 x.2.1).bind fun _ =>
      (z22[x.2.1.toNat]?).bind fun e23 =>
      (z22[x.2.1.toNat]?).bind fun e24 =>
      (markStringS e24.result.columns r21.2).bind fun r25 =>
      (some (z22.set x.2.1.toNat (GRead.mk e24.kind e24.n e24.time e24.text (GVal.mk e24.result.kind e24.result.n e24.result.step e24.result.text e24.result.list r25.1 e24.result.rows)))).bind fun z26 =>
      (idx z26 x.2.1).bind fun _ =>
      (z26[x.2.1.toNat]?).bind fun e27 =>
      (z26[x.2.1.toNat]?).bind fun e28 =>
      (markRowS e28.result.rows r25.2).bind fun r29 =>
      (some (z26.set x.2.1.toNat (GRead.mk e28.kind e28.n e28.time e28.text (GVal.mk e28.result.kind e28.result.n e28.result.step e28.result.text e28.result.list e28.result.columns r29.1)))).bind fun z30 =>
      some (.inl (z30, w64 (x.2.1 + 1), r29.2))
    else
      some (.inr (x.1, x.2.2))
  ) (a, 0, b)
noncomputable def markReadSMS : Msp := { fid := 102, sh := ⟨false, .list (.base .read)⟩, fn := fun x n => markReadS x n }
noncomputable def markTapeS (a : List GTape) (b : Int) : Option (List GTape × Int) :=
  loopD (fun (x : List GTape × Int × Int) =>
    bif (decide (x.2.1 < (x.1.length : Int))) then
      (idx x.1 x.2.1).bind fun _ =>
      (x.1[x.2.1.toNat]?).bind fun e1 =>
      (some (x.1.set x.2.1.toNat (GTape.mk x.2.2 e1.version e1.reads))).bind fun z2 =>
      (idx z2 x.2.1).bind fun _ =>
      (z2[x.2.1.toNat]?).bind fun e3 =>
      (some (z2.set x.2.1.toNat (GTape.mk e3.cell (w64 (x.2.2 + 1)) e3.reads))).bind fun z4 =>
      (idx z4 x.2.1).bind fun _ =>
      (z4[x.2.1.toNat]?).bind fun e5 =>
      (z4[x.2.1.toNat]?).bind fun e6 =>
      (markReadS e6.reads (w64 ((w64 (x.2.2 + 1)) + 1))).bind fun r7 =>
      (some (z4.set x.2.1.toNat (GTape.mk e6.cell e6.version r7.1))).bind fun z8 =>
      some (.inl (z8, w64 (x.2.1 + 1), r7.2))
    else
      some (.inr (x.1, x.2.2))
  ) (a, 0, b)
noncomputable def markTapeSMS : Msp := { fid := 49, sh := ⟨false, .list (.base .tape)⟩, fn := fun x n => markTapeS x n }
noncomputable def markEntryS (a : List GEntry) (b : Int) : Option (List GEntry × Int) :=
  loopD (fun (x : List GEntry × Int × Int) =>
    bif (decide (x.2.1 < (x.1.length : Int))) then
      (idx x.1 x.2.1).bind fun _ =>
      (x.1[x.2.1.toNat]?).bind fun e1 =>
      (some (x.1.set x.2.1.toNat (GEntry.mk x.2.2 e1.version e1.stamp e1.inputs (reVal e1.value) e1.has))).bind fun z2 =>
      (idx z2 x.2.1).bind fun _ =>
      (z2[x.2.1.toNat]?).bind fun e3 =>
      (some (z2.set x.2.1.toNat (GEntry.mk e3.cell (w64 (x.2.2 + 1)) e3.stamp e3.inputs (reVal e3.value) e3.has))).bind fun z4 =>
      (idx z4 x.2.1).bind fun _ =>
      (z4[x.2.1.toNat]?).bind fun e5 =>
      (some (z4.set x.2.1.toNat (GEntry.mk e5.cell e5.version (w64 ((w64 (x.2.2 + 1)) + 1)) e5.inputs (reVal e5.value) e5.has))).bind fun z6 =>
      (idx z6 x.2.1).bind fun _ =>
      (z6[x.2.1.toNat]?).bind fun e7 =>
      (z6[x.2.1.toNat]?).bind fun e8 =>
      (markIntS e8.inputs (w64 ((w64 ((w64 (x.2.2 + 1)) + 1)) + 1))).bind fun r9 =>
      (some (z6.set x.2.1.toNat (GEntry.mk e8.cell e8.version e8.stamp r9.1 (reVal e8.value) e8.has))).bind fun z10 =>
      (idx z10 x.2.1).bind fun _ =>
      (z10[x.2.1.toNat]?).bind fun e11 =>
      (some (z10.set x.2.1.toNat (GEntry.mk e11.cell e11.version e11.stamp e11.inputs (GVal.mk r9.2 e11.value.n e11.value.step e11.value.text e11.value.list e11.value.columns e11.value.rows) e11.has))).bind fun z12 =>
      (idx z12 x.2.1).bind fun _ =>
      (z12[x.2.1.toNat]?).bind fun e13 =>
      (some (z12.set x.2.1.toNat (GEntry.mk e13.cell e13.version e13.stamp e13.inputs (GVal.mk e13.value.kind (w64 (r9.2 + 1)) e13.value.step e13.value.text e13.value.list e13.value.columns e13.value.rows) e13.has))).bind fun z14 =>
      (idx z14 x.2.1).bind fun _ =>
      (z14[x.2.1.toNat]?).bind fun e15 =>
      (some (z14.set x.2.1.toNat (GEntry.mk e15.cell e15.version e15.stamp e15.inputs (GVal.mk e15.value.kind e15.value.n (w64 ((w64 (r9.2 + 1)) + 1)) e15.value.text e15.value.list e15.value.columns e15.value.rows) e15.has))).bind fun z16 =>
      (markText (w64 ((w64 ((w64 (r9.2 + 1)) + 1)) + 1))).bind fun t17 =>
      (idx z16 x.2.1).bind fun _ =>
      (z16[x.2.1.toNat]?).bind fun e18 =>
      (some (z16.set x.2.1.toNat (GEntry.mk e18.cell e18.version e18.stamp e18.inputs (GVal.mk e18.value.kind e18.value.n e18.value.step t17 e18.value.list e18.value.columns e18.value.rows) e18.has))).bind fun z19 =>
      (idx z19 x.2.1).bind fun _ =>
      (z19[x.2.1.toNat]?).bind fun e20 =>
      (z19[x.2.1.toNat]?).bind fun e21 =>
      (markValueS e21.value.list (w64 ((w64 ((w64 ((w64 (r9.2 + 1)) + 1)) + 1)) + 1))).bind fun r22 =>
      (some (z19.set x.2.1.toNat (GEntry.mk e21.cell e21.version e21.stamp e21.inputs (GVal.mk e21.value.kind e21.value.n e21.value.step e21.value.text r22.1 e21.value.columns e21.value.rows) e21.has))).bind fun z23 =>
      (idx z23 x.2.1).bind fun _ =>
      (z23[x.2.1.toNat]?).bind fun e24 =>
      (z23[x.2.1.toNat]?).bind fun e25 =>
      (markStringS e25.value.columns r22.2).bind fun r26 =>
      (some (z23.set x.2.1.toNat (GEntry.mk e25.cell e25.version e25.stamp e25.inputs (GVal.mk e25.value.kind e25.value.n e25.value.step e25.value.text e25.value.list r26.1 e25.value.rows) e25.has))).bind fun z27 =>
      (idx z27 x.2.1).bind fun _ =>
      (z27[x.2.1.toNat]?).bind fun e28 =>
      (z27[x.2.1.toNat]?).bind fun e29 =>
      (markRowS e29.value.rows r26.2).bind fun r30 =>
      (some (z27.set x.2.1.toNat (GEntry.mk e29.cell e29.version e29.stamp e29.inputs (GVal.mk e29.value.kind e29.value.n e29.value.step e29.value.text e29.value.list e29.value.columns r30.1) e29.has))).bind fun z31 =>
      (idx z31 x.2.1).bind fun _ =>
      (z31[x.2.1.toNat]?).bind fun e32 =>
      (some (z31.set x.2.1.toNat (GEntry.mk e32.cell e32.version e32.stamp e32.inputs (reVal e32.value) ((r30.2.tmod 3) == 0)))).bind fun z33 =>
      some (.inl (z33, w64 (x.2.1 + 1), w64 (r30.2 + 1)))
    else
      some (.inr (x.1, x.2.2))
  ) (a, 0, b)
noncomputable def markEntrySMS : Msp := { fid := 50, sh := ⟨false, .list (.base .entry)⟩, fn := fun x n => markEntryS x n }
noncomputable def markEngine (a : GEngine) (b : Int) : Option (GEngine × Int) :=
  (markNotebook a.notebook b).bind fun r1 =>
  (markWorld a.world r1.2).bind fun r2 =>
  (markTapeS a.tapes r2.2).bind fun r3 =>
  (markEntryS a.entries r3.2).bind fun r4 =>
  some (GEngine.mk r1.1 r2.1 r3.1 r4.1 a.next a.limit a.work, r4.2)
noncomputable def markEngineMS : Msp := { fid := 13, sh := ⟨true, .base .engine⟩, fn := fun x n => markEngine x n }
noncomputable def markEditS (a : List GEdit) (b : Int) : Option (List GEdit × Int) :=
  loopD (fun (x : List GEdit × Int × Int) =>
    bif (decide (x.2.1 < (x.1.length : Int))) then
      (idx x.1 x.2.1).bind fun _ =>
      (x.1[x.2.1.toNat]?).bind fun e1 =>
      (some (x.1.set x.2.1.toNat (GEdit.mk x.2.2 e1.pos e1.cell))).bind fun z2 =>
      (idx z2 x.2.1).bind fun _ =>
      (z2[x.2.1.toNat]?).bind fun e3 =>
      (some (z2.set x.2.1.toNat (GEdit.mk e3.kind (w64 (x.2.2 + 1)) e3.cell))).bind fun z4 =>
      (idx z4 x.2.1).bind fun _ =>
      (z4[x.2.1.toNat]?).bind fun e5 =>
      (some (z4.set x.2.1.toNat (GEdit.mk e5.kind e5.pos (GCell.mk (w64 ((w64 (x.2.2 + 1)) + 1)) e5.cell.version e5.cell.kind e5.cell.name e5.cell.code e5.cell.n)))).bind fun z6 =>
      (idx z6 x.2.1).bind fun _ =>
      (z6[x.2.1.toNat]?).bind fun e7 =>
      (some (z6.set x.2.1.toNat (GEdit.mk e7.kind e7.pos (GCell.mk e7.cell.id (w64 ((w64 ((w64 (x.2.2 + 1)) + 1)) + 1)) e7.cell.kind e7.cell.name e7.cell.code e7.cell.n)))).bind fun z8 =>
      (idx z8 x.2.1).bind fun _ =>
      (z8[x.2.1.toNat]?).bind fun e9 =>
      (some (z8.set x.2.1.toNat (GEdit.mk e9.kind e9.pos (GCell.mk e9.cell.id e9.cell.version (w64 ((w64 ((w64 ((w64 (x.2.2 + 1)) + 1)) + 1)) + 1)) e9.cell.name e9.cell.code e9.cell.n)))).bind fun z10 =>
      (markText (w64 ((w64 ((w64 ((w64 ((w64 (x.2.2 + 1)) + 1)) + 1)) + 1)) + 1))).bind fun t11 =>
      (idx z10 x.2.1).bind fun _ =>
      (z10[x.2.1.toNat]?).bind fun e12 =>
      (some (z10.set x.2.1.toNat (GEdit.mk e12.kind e12.pos (GCell.mk e12.cell.id e12.cell.version e12.cell.kind t11 e12.cell.code e12.cell.n)))).bind fun z13 =>
      (markText (w64 ((w64 ((w64 ((w64 ((w64 ((w64 (x.2.2 + 1)) + 1)) + 1)) + 1)) + 1)) + 1))).bind fun t14 =>
      (idx z13 x.2.1).bind fun _ =>
      (z13[x.2.1.toNat]?).bind fun e15 =>
      (some (z13.set x.2.1.toNat (GEdit.mk e15.kind e15.pos (GCell.mk e15.cell.id e15.cell.version e15.cell.kind e15.cell.name t14 e15.cell.n)))).bind fun z16 =>
      (idx z16 x.2.1).bind fun _ =>
      (z16[x.2.1.toNat]?).bind fun e17 =>
      (some (z16.set x.2.1.toNat (GEdit.mk e17.kind e17.pos (GCell.mk e17.cell.id e17.cell.version e17.cell.kind e17.cell.name e17.cell.code (w64 ((w64 ((w64 ((w64 ((w64 ((w64 ((w64 (x.2.2 + 1)) + 1)) + 1)) + 1)) + 1)) + 1)) + 1)))))).bind fun z18 =>
      some (.inl (z18, w64 (x.2.1 + 1), w64 ((w64 ((w64 ((w64 ((w64 ((w64 ((w64 ((w64 (x.2.2 + 1)) + 1)) + 1)) + 1)) + 1)) + 1)) + 1)) + 1)))
    else
      some (.inr (x.1, x.2.2))
  ) (a, 0, b)
noncomputable def markEditSMS : Msp := { fid := 14, sh := ⟨false, .list (.base .edit)⟩, fn := fun x n => markEditS x n }
noncomputable def heldCellS (a : List GCell) (b : Int) : Option (Int) :=
  loopD (fun (x1 : (List GCell) × Int × Int) =>
    bif (decide (x1.2.2 < (x1.1.length : Int))) then
      (idx x1.1 x1.2.2).bind fun e2 =>
      bif (e2.id != x1.2.1) then
        some (.inr ((-1)))
      else
      (idx x1.1 x1.2.2).bind fun e3 =>
      bif (e3.version != (w64 (x1.2.1 + 1))) then
        some (.inr ((-1)))
      else
      (idx x1.1 x1.2.2).bind fun e4 =>
      bif (e4.kind != (w64 ((w64 (x1.2.1 + 1)) + 1))) then
        some (.inr ((-1)))
      else
      (idx x1.1 x1.2.2).bind fun e5 =>
      (markText (w64 ((w64 ((w64 (x1.2.1 + 1)) + 1)) + 1))).bind fun r6 =>
      bif (!(e5.name == r6)) then
        some (.inr ((-1)))
      else
      (idx x1.1 x1.2.2).bind fun e7 =>
      (markText (w64 ((w64 ((w64 ((w64 (x1.2.1 + 1)) + 1)) + 1)) + 1))).bind fun r8 =>
      bif (!(e7.code == r8)) then
        some (.inr ((-1)))
      else
        (idx x1.1 x1.2.2).bind fun e9 =>
        bif (e9.n != (w64 ((w64 ((w64 ((w64 ((w64 (x1.2.1 + 1)) + 1)) + 1)) + 1)) + 1))) then
          some (.inr ((-1)))
        else
          some (.inl (x1.1, w64 ((w64 ((w64 ((w64 ((w64 ((w64 (x1.2.1 + 1)) + 1)) + 1)) + 1)) + 1)) + 1), w64 (x1.2.2 + 1)))
    else
      some (.inr (x1.2.1))
  ) (a, b, 0)
noncomputable def heldCellSFS : Fsp := { fid := 107, ps := [⟨false, .list (.base .cell)⟩, ⟨false, .base .int⟩], rs := [⟨false, .base .int⟩], ex := true, fn := fun x => heldCellS x.1 x.2 }
noncomputable def heldNotebook (a : GNotebook) (b : Int) : Option (Int) :=
  (heldCellS a.cells b).bind fun r1 =>
  bif (decide (r1 < 0)) then
    some ((-1))
  else
    some (r1)
noncomputable def heldNotebookFS : Fsp := { fid := 52, ps := [⟨true, .base .notebook⟩, ⟨false, .base .int⟩], rs := [⟨false, .base .int⟩], ex := true, fn := fun x => heldNotebook x.1 x.2 }
noncomputable def heldFileS (a : List GFile) (b : Int) : Option (Int) :=
  loopD (fun (x1 : (List GFile) × Int × Int) =>
    bif (decide (x1.2.2 < (x1.1.length : Int))) then
      (idx x1.1 x1.2.2).bind fun e2 =>
      (markText x1.2.1).bind fun r3 =>
      bif (!(e2.name == r3)) then
        some (.inr ((-1)))
      else
        (idx x1.1 x1.2.2).bind fun e4 =>
        bif (e4.n != (w64 (x1.2.1 + 1))) then
          some (.inr ((-1)))
        else
          some (.inl (x1.1, w64 ((w64 (x1.2.1 + 1)) + 1), w64 (x1.2.2 + 1)))
    else
      some (.inr (x1.2.1))
  ) (a, b, 0)
noncomputable def heldFileSFS : Fsp := { fid := 108, ps := [⟨false, .list (.base .file)⟩, ⟨false, .base .int⟩], rs := [⟨false, .base .int⟩], ex := true, fn := fun x => heldFileS x.1 x.2 }
noncomputable def heldWorld (a : GWorld) (b : Int) : Option (Int) :=
  (heldFileS a.files b).bind fun r1 =>
  bif (decide (r1 < 0)) then
    some ((-1))
  else
    some (r1)
noncomputable def heldWorldFS : Fsp := { fid := 53, ps := [⟨true, .base .world⟩, ⟨false, .base .int⟩], rs := [⟨false, .base .int⟩], ex := true, fn := fun x => heldWorld x.1 x.2 }
noncomputable def heldStringS (a : List Str) (b : Int) : Option (Int) :=
  loopD (fun (x1 : (List Str) × Int × Int) =>
    bif (decide (x1.2.2 < (x1.1.length : Int))) then
      (idx x1.1 x1.2.2).bind fun e2 =>
      (markText x1.2.1).bind fun r3 =>
      bif (!(e2 == r3)) then
        some (.inr ((-1)))
      else
        some (.inl (x1.1, w64 (x1.2.1 + 1), w64 (x1.2.2 + 1)))
    else
      some (.inr (x1.2.1))
  ) (a, b, 0)
noncomputable def heldStringSFS : Fsp := { fid := 112, ps := [⟨false, .list (.base .str)⟩, ⟨false, .base .int⟩], rs := [⟨false, .base .int⟩], ex := true, fn := fun x => heldStringS x.1 x.2 }
noncomputable def heldIntS (a : List Int) (b : Int) : Option (Int) :=
  loopD (fun (x1 : (List Int) × Int × Int) =>
    bif (decide (x1.2.2 < (x1.1.length : Int))) then
      (idx x1.1 x1.2.2).bind fun e2 =>
      bif (e2 != x1.2.1) then
        some (.inr ((-1)))
      else
        some (.inl (x1.1, w64 (x1.2.1 + 1), w64 (x1.2.2 + 1)))
    else
      some (.inr (x1.2.1))
  ) (a, b, 0)
noncomputable def heldIntSFS : Fsp := { fid := 110, ps := [⟨false, .list (.base .int)⟩, ⟨false, .base .int⟩], rs := [⟨false, .base .int⟩], ex := true, fn := fun x => heldIntS x.1 x.2 }
noncomputable def heldOriginS (a : List GOrigin) (b : Int) : Option (Int) :=
  loopD (fun (x1 : (List GOrigin) × Int × Int) =>
    bif (decide (x1.2.2 < (x1.1.length : Int))) then
      (idx x1.1 x1.2.2).bind fun e2 =>
      bif (e2.cell != x1.2.1) then
        some (.inr ((-1)))
      else
        (idx x1.1 x1.2.2).bind fun e3 =>
        bif (e3.row != (w64 (x1.2.1 + 1))) then
          some (.inr ((-1)))
        else
          some (.inl (x1.1, w64 ((w64 (x1.2.1 + 1)) + 1), w64 (x1.2.2 + 1)))
    else
      some (.inr (x1.2.1))
  ) (a, b, 0)
noncomputable def heldOriginSFS : Fsp := { fid := 154, ps := [⟨false, .list (.base .origin)⟩, ⟨false, .base .int⟩], rs := [⟨false, .base .int⟩], ex := true, fn := fun x => heldOriginS x.1 x.2 }
noncomputable def heldRowS (a : List GRow) (b : Int) : Option (Int) :=
  loopD (fun (x1 : (List GRow) × Int × Int) =>
    bif (decide (x1.2.2 < (x1.1.length : Int))) then
      (idx x1.1 x1.2.2).bind fun e2 =>
      (heldIntS e2.cells x1.2.1).bind fun r3 =>
      bif (decide (r3 < 0)) then
        some (.inr ((-1)))
      else
        (idx x1.1 x1.2.2).bind fun e4 =>
        (heldOriginS e4.orig r3).bind fun r5 =>
        bif (decide (r5 < 0)) then
          some (.inr ((-1)))
        else
          some (.inl (x1.1, r5, w64 (x1.2.2 + 1)))
    else
      some (.inr (x1.2.1))
  ) (a, b, 0)
noncomputable def heldRowSFS : Fsp := { fid := 113, ps := [⟨false, .list (.base .row)⟩, ⟨false, .base .int⟩], rs := [⟨false, .base .int⟩], ex := true, fn := fun x => heldRowS x.1 x.2 }
noncomputable def heldValueSB (rheldValueS : (List GVal) → Int → Option (Int)) (a : List GVal) (b : Int) : Option (Int) :=
  loopD (fun (x1 : (List GVal) × Int × Int) =>
    bif (decide (x1.2.2 < (x1.1.length : Int))) then
      (idx x1.1 x1.2.2).bind fun e2 =>
      bif (e2.kind != x1.2.1) then
        some (.inr ((-1)))
      else
      (idx x1.1 x1.2.2).bind fun e3 =>
      bif (e3.n != (w64 (x1.2.1 + 1))) then
        some (.inr ((-1)))
      else
      (idx x1.1 x1.2.2).bind fun e4 =>
      bif (e4.step != (w64 ((w64 (x1.2.1 + 1)) + 1))) then
        some (.inr ((-1)))
      else
      (idx x1.1 x1.2.2).bind fun e5 =>
      (markText (w64 ((w64 ((w64 (x1.2.1 + 1)) + 1)) + 1))).bind fun r6 =>
      bif (!(e5.text == r6)) then
        some (.inr ((-1)))
      else
      (idx x1.1 x1.2.2).bind fun e7 =>
      (rheldValueS e7.list (w64 ((w64 ((w64 ((w64 (x1.2.1 + 1)) + 1)) + 1)) + 1))).bind fun r8 =>
      bif (decide (r8 < 0)) then
        some (.inr ((-1)))
      else
      (idx x1.1 x1.2.2).bind fun e9 =>
      (heldStringS e9.columns r8).bind fun r10 =>
      bif (decide (r10 < 0)) then
        some (.inr ((-1)))
      else
        (idx x1.1 x1.2.2).bind fun e11 =>
        (heldRowS e11.rows r10).bind fun r12 =>
        bif (decide (r12 < 0)) then
          some (.inr ((-1)))
        else
          some (.inl (x1.1, r12, w64 (x1.2.2 + 1)))
    else
      some (.inr (x1.2.1))
  ) (a, b, 0)
noncomputable def heldValueSG : Nat → ((List GVal) → Int → Option (Int))
  | 0 => fun _ _ => none
  | n + 1 => heldValueSB (heldValueSG n)
noncomputable def heldValueS (a : List GVal) (b : Int) : Option (Int) := (heldValueSG (siz a + 1)) a b
noncomputable def heldValueSFS : Fsp := { fid := 111, ps := [⟨false, .list (.base .val)⟩, ⟨false, .base .int⟩], rs := [⟨false, .base .int⟩], ex := true, fn := fun x => heldValueS x.1 x.2 }
noncomputable def heldValueSFSN (n : Nat) : Fsp := { fid := 111, ps := [⟨false, .list (.base .val)⟩, ⟨false, .base .int⟩], rs := [⟨false, .base .int⟩], ex := true, fn := fun x => (heldValueSG n) x.1 x.2 }
noncomputable def heldReadS (a : List GRead) (b : Int) : Option (Int) :=
  loopD (fun (x1 : (List GRead) × Int × Int) =>
    bif (decide (x1.2.2 < (x1.1.length : Int))) then
      (idx x1.1 x1.2.2).bind fun e2 =>
      bif (e2.kind != x1.2.1) then
        some (.inr ((-1)))
      else
      (idx x1.1 x1.2.2).bind fun e3 =>
      bif (e3.n != (w64 (x1.2.1 + 1))) then
        some (.inr ((-1)))
      else
      (idx x1.1 x1.2.2).bind fun e4 =>
      bif (e4.time != (w64 ((w64 (x1.2.1 + 1)) + 1))) then
        some (.inr ((-1)))
      else
      (idx x1.1 x1.2.2).bind fun e5 =>
      (markText (w64 ((w64 ((w64 (x1.2.1 + 1)) + 1)) + 1))).bind fun r6 =>
      bif (!(e5.text == r6)) then
        some (.inr ((-1)))
      else
      (idx x1.1 x1.2.2).bind fun e7 =>
      bif (e7.result.kind != (w64 ((w64 ((w64 ((w64 (x1.2.1 + 1)) + 1)) + 1)) + 1))) then
        some (.inr ((-1)))
      else
      (idx x1.1 x1.2.2).bind fun e8 =>
      bif (e8.result.n != (w64 ((w64 ((w64 ((w64 ((w64 (x1.2.1 + 1)) + 1)) + 1)) + 1)) + 1))) then
        some (.inr ((-1)))
      else
      (idx x1.1 x1.2.2).bind fun e9 =>
      bif (e9.result.step != (w64 ((w64 ((w64 ((w64 ((w64 ((w64 (x1.2.1 + 1)) + 1)) + 1)) + 1)) + 1)) + 1))) then
        some (.inr ((-1)))
      else
      (idx x1.1 x1.2.2).bind fun e10 =>
      (markText (w64 ((w64 ((w64 ((w64 ((w64 ((w64 ((w64 (x1.2.1 + 1)) + 1)) + 1)) + 1)) + 1)) + 1)) + 1))).bind fun r11 =>
      bif (!(e10.result.text == r11)) then
        some (.inr ((-1)))
      else
      (idx x1.1 x1.2.2).bind fun e12 =>
      (heldValueS e12.result.list (w64 ((w64 ((w64 ((w64 ((w64 ((w64 ((w64 ((w64 (x1.2.1 + 1)) + 1)) + 1)) + 1)) + 1)) + 1)) + 1)) + 1))).bind fun r13 =>
      bif (decide (r13 < 0)) then
        some (.inr ((-1)))
      else
      (idx x1.1 x1.2.2).bind fun e14 =>
      (heldStringS e14.result.columns r13).bind fun r15 =>
      bif (decide (r15 < 0)) then
        some (.inr ((-1)))
      else
        (idx x1.1 x1.2.2).bind fun e16 =>
        (heldRowS e16.result.rows r15).bind fun r17 =>
        bif (decide (r17 < 0)) then
          some (.inr ((-1)))
        else
          some (.inl (x1.1, r17, w64 (x1.2.2 + 1)))
    else
      some (.inr (x1.2.1))
  ) (a, b, 0)
noncomputable def heldReadSFS : Fsp := { fid := 109, ps := [⟨false, .list (.base .read)⟩, ⟨false, .base .int⟩], rs := [⟨false, .base .int⟩], ex := true, fn := fun x => heldReadS x.1 x.2 }
noncomputable def heldTapeS (a : List GTape) (b : Int) : Option (Int) :=
  loopD (fun (x1 : (List GTape) × Int × Int) =>
    bif (decide (x1.2.2 < (x1.1.length : Int))) then
      (idx x1.1 x1.2.2).bind fun e2 =>
      bif (e2.cell != x1.2.1) then
        some (.inr ((-1)))
      else
      (idx x1.1 x1.2.2).bind fun e3 =>
      bif (e3.version != (w64 (x1.2.1 + 1))) then
        some (.inr ((-1)))
      else
        (idx x1.1 x1.2.2).bind fun e4 =>
        (heldReadS e4.reads (w64 ((w64 (x1.2.1 + 1)) + 1))).bind fun r5 =>
        bif (decide (r5 < 0)) then
          some (.inr ((-1)))
        else
          some (.inl (x1.1, r5, w64 (x1.2.2 + 1)))
    else
      some (.inr (x1.2.1))
  ) (a, b, 0)
noncomputable def heldTapeSFS : Fsp := { fid := 54, ps := [⟨false, .list (.base .tape)⟩, ⟨false, .base .int⟩], rs := [⟨false, .base .int⟩], ex := true, fn := fun x => heldTapeS x.1 x.2 }
noncomputable def heldEntryS (a : List GEntry) (b : Int) : Option (Int) :=
  loopD (fun (x1 : (List GEntry) × Int × Int) =>
    bif (decide (x1.2.2 < (x1.1.length : Int))) then
      (idx x1.1 x1.2.2).bind fun e2 =>
      bif (e2.cell != x1.2.1) then
        some (.inr ((-1)))
      else
      (idx x1.1 x1.2.2).bind fun e3 =>
      bif (e3.version != (w64 (x1.2.1 + 1))) then
        some (.inr ((-1)))
      else
      (idx x1.1 x1.2.2).bind fun e4 =>
      bif (e4.stamp != (w64 ((w64 (x1.2.1 + 1)) + 1))) then
        some (.inr ((-1)))
      else
      (idx x1.1 x1.2.2).bind fun e5 =>
      (heldIntS e5.inputs (w64 ((w64 ((w64 (x1.2.1 + 1)) + 1)) + 1))).bind fun r6 =>
      bif (decide (r6 < 0)) then
        some (.inr ((-1)))
      else
      (idx x1.1 x1.2.2).bind fun e7 =>
      bif (e7.value.kind != r6) then
        some (.inr ((-1)))
      else
      (idx x1.1 x1.2.2).bind fun e8 =>
      bif (e8.value.n != (w64 (r6 + 1))) then
        some (.inr ((-1)))
      else
      (idx x1.1 x1.2.2).bind fun e9 =>
      bif (e9.value.step != (w64 ((w64 (r6 + 1)) + 1))) then
        some (.inr ((-1)))
      else
      (idx x1.1 x1.2.2).bind fun e10 =>
      (markText (w64 ((w64 ((w64 (r6 + 1)) + 1)) + 1))).bind fun r11 =>
      bif (!(e10.value.text == r11)) then
        some (.inr ((-1)))
      else
      (idx x1.1 x1.2.2).bind fun e12 =>
      (heldValueS e12.value.list (w64 ((w64 ((w64 ((w64 (r6 + 1)) + 1)) + 1)) + 1))).bind fun r13 =>
      bif (decide (r13 < 0)) then
        some (.inr ((-1)))
      else
      (idx x1.1 x1.2.2).bind fun e14 =>
      (heldStringS e14.value.columns r13).bind fun r15 =>
      bif (decide (r15 < 0)) then
        some (.inr ((-1)))
      else
      (idx x1.1 x1.2.2).bind fun e16 =>
      (heldRowS e16.value.rows r15).bind fun r17 =>
      bif (decide (r17 < 0)) then
        some (.inr ((-1)))
      else
        (idx x1.1 x1.2.2).bind fun e18 =>
        bif (!(e18.has == ((r17.tmod 3) == 0))) then
          some (.inr ((-1)))
        else
          some (.inl (x1.1, w64 (r17 + 1), w64 (x1.2.2 + 1)))
    else
      some (.inr (x1.2.1))
  ) (a, b, 0)
noncomputable def heldEntrySFS : Fsp := { fid := 55, ps := [⟨false, .list (.base .entry)⟩, ⟨false, .base .int⟩], rs := [⟨false, .base .int⟩], ex := true, fn := fun x => heldEntryS x.1 x.2 }
noncomputable def heldEngine (a : GEngine) (b : Int) : Option (Int) :=
  (heldNotebook a.notebook b).bind fun r1 =>
  bif (decide (r1 < 0)) then
    some ((-1))
  else
  (heldWorld a.world r1).bind fun r2 =>
  bif (decide (r2 < 0)) then
    some ((-1))
  else
    (heldTapeS a.tapes r2).bind fun r3 =>
    bif (decide (r3 < 0)) then
      some ((-1))
    else
      (heldEntryS a.entries r3).bind fun r4 =>
      bif (decide (r4 < 0)) then
        some ((-1))
      else
        some (r4)
noncomputable def heldEngineFS : Fsp := { fid := 15, ps := [⟨true, .base .engine⟩, ⟨false, .base .int⟩], rs := [⟨false, .base .int⟩], ex := true, fn := fun x => heldEngine x.1 x.2 }
noncomputable def FnExactBatchEngine (a : GEngine) (b : List GEdit) : Option (Bool) :=
  (szEngine a 1048576).bind fun r1 =>
  bif (decide (r1 < 0)) then
    some (true)
  else
  (szEditS b r1).bind fun r2 =>
  bif (decide (r2 < 0)) then
    some (true)
  else
  (toEngine a).bind fun r3 =>
  (toEditS b).bind fun r4 =>
  (sBatchEngine r3 r4).bind fun r5 =>
  (toEngine a).bind fun r6 =>
  (toEditS b).bind fun r7 =>
  (iBatchEngine r6 r7).bind fun r8 =>
  (eqEngine r8.1 r5.1).bind fun r9 =>
  bif (!r9) then
    some (false)
  else
  bif (r8.2 != r5.2) then
    some (false)
  else
  (toEngine a).bind fun r10 =>
  (eqEngine r6 r10).bind fun r11 =>
  bif (!r11) then
    some (false)
  else
  (toEditS b).bind fun r12 =>
  (eqEditS r7 r12).bind fun r13 =>
  bif (!r13) then
    some (false)
  else
  (markEngine r6 1).bind fun r14 =>
  (markEditS r7 r14.2).bind fun r15 =>
  bif (decide (r15.2 < 0)) then
    some (false)
  else
  (eqEngine r8.1 r5.1).bind fun r16 =>
  bif (!r16) then
    some (false)
  else
  bif (r8.2 != r5.2) then
    some (false)
  else
  (markEngine r8.1 1).bind fun r17 =>
  (heldEngine (GEngine.mk r17.1.notebook (GWorld.mk r8.1.world.clock r8.1.world.seed r17.1.world.files) r17.1.tapes r17.1.entries r8.1.next r8.1.limit r8.1.work) 1).bind fun r18 =>
  bif (decide (r18 < 0)) then
    some (false)
  else
  bif (r18 != r17.2) then
    some (false)
  else
  (toEngine a).bind fun r19 =>
  (toEditS b).bind fun r20 =>
  (iBatchEngine r19 r20).bind fun r21 =>
  (eqEngine r21.1 r5.1).bind fun r22 =>
  bif (!r22) then
    some (false)
  else
  bif (r21.2 != r5.2) then
    some (false)
  else
    (heldEngine (GEngine.mk r17.1.notebook (GWorld.mk r8.1.world.clock r8.1.world.seed r17.1.world.files) r17.1.tapes r17.1.entries r8.1.next r8.1.limit r8.1.work) 1).bind fun r23 =>
    bif (decide (r23 < 0)) then
      some (false)
    else
      bif (r23 != r17.2) then
        some (false)
      else
        some (true)
noncomputable def FnExactBatchEngineFS : Fsp := { fid := 3, ps := [⟨true, .base .engine⟩, ⟨false, .list (.base .edit)⟩], rs := [⟨false, .base .bool⟩], ex := true, fn := fun x => FnExactBatchEngine x.1 x.2 }
end Go.Proofs.YtopcobafmnpmkaaGreat
