/- What the functions compute, by gen.py. -/
import Derived.Test.YtceinjokenbhjaaGreatDoorTabs
import Derived.Test.YtceinjokenbhjaaGreatDoorSortD
import Derived.Test.YtceinjokenbhjaaGreatDoorLib0
namespace Go.Proofs.YtceinjokenbhjaaGreatDoor
open Go.Abs Go.Proofs
set_option linter.unusedVariables false
abbrev siz {α : Type} [SizeOf α] (x : α) : Nat := SizeOf.sizeOf x
abbrev w64 (n : Int) : Int := IntKind.i64.wrap n
abbrev w8 (n : Int) : Int := IntKind.u8.wrap n
noncomputable def libSortStringsIS : Isp := { fid := 89, t := .base .str, fn := libSortStrings }
noncomputable def szCell (a : GCell) (b : Int) : Option (Int) :=
 bif (decide ((w64 (b - (a.name.length : Int))) < 0)) then
  some ((-1))
 else
  bif (decide ((w64 ((w64 (b - (a.name.length : Int))) - (a.code.length : Int))) < 0)) then
   some ((-1))
  else
   some (w64 ((w64 (b - (a.name.length : Int))) - (a.code.length : Int)))
noncomputable def szCellFS : Fsp := { fid := 12, ps := [⟨true, .base .cell⟩, ⟨false, .base .int⟩], rs := [⟨false, .base .int⟩], ex := true, fn := fun x => szCell x.1 x.2 }
noncomputable def szEdit (a : GEdit) (b : Int) : Option (Int) :=
 (szCell a.cell b).bind fun r1 =>
 bif (decide (r1 < 0)) then
  some ((-1))
 else
  some (r1)
noncomputable def szEditFS : Fsp := { fid := 4, ps := [⟨true, .base .edit⟩, ⟨false, .base .int⟩], rs := [⟨false, .base .int⟩], ex := true, fn := fun x => szEdit x.1 x.2 }
noncomputable def szIntS (a : List Int) (b : Int) : Option (Int) :=
 bif (decide ((w64 (b - (a.length : Int))) < 0)) then
  some ((-1))
 else
  some (w64 (b - (a.length : Int)))
noncomputable def szIntSFS : Fsp := { fid := 20, ps := [⟨false, .list (.base .int)⟩, ⟨false, .base .int⟩], rs := [⟨false, .base .int⟩], ex := true, fn := fun x => szIntS x.1 x.2 }
noncomputable def szStringS (a : List Str) (b : Int) : Option (Int) :=
 bif (decide ((w64 (b - (a.length : Int))) < 0)) then
  some ((-1))
 else
  loopD (fun (x1 : (List Str) × Int × Int) =>
   bif (decide (x1.2.2 < (x1.1.length : Int))) then
    (idx x1.1 x1.2.2).bind fun e2 =>
    bif (decide ((w64 (x1.2.1 - (e2.length : Int))) < 0)) then
     some (.inr ((-1)))
    else
     some (.inl (x1.1, w64 (x1.2.1 - (e2.length : Int)), w64 (x1.2.2 + 1)))
   else
    some (.inr (x1.2.1))
  ) (a, w64 (b - (a.length : Int)), 0)
noncomputable def szStringSFS : Fsp := { fid := 100, ps := [⟨false, .list (.base .str)⟩, ⟨false, .base .int⟩], rs := [⟨false, .base .int⟩], ex := true, fn := fun x => szStringS x.1 x.2 }
noncomputable def szOriginS (a : List GOrigin) (b : Int) : Option (Int) :=
 bif (decide ((w64 (b - (a.length : Int))) < 0)) then
  some ((-1))
 else
  some (w64 (b - (a.length : Int)))
noncomputable def szOriginSFS : Fsp := { fid := 149, ps := [⟨false, .list (.base .origin)⟩, ⟨false, .base .int⟩], rs := [⟨false, .base .int⟩], ex := true, fn := fun x => szOriginS x.1 x.2 }
noncomputable def szRow (a : GRow) (b : Int) : Option (Int) :=
 (szIntS a.cells b).bind fun r1 =>
 bif (decide (r1 < 0)) then
  some ((-1))
 else
  (szOriginS a.orig r1).bind fun r2 =>
  bif (decide (r2 < 0)) then
   some ((-1))
  else
   some (r2)
noncomputable def szRowFS : Fsp := { fid := 135, ps := [⟨true, .base .row⟩, ⟨false, .base .int⟩], rs := [⟨false, .base .int⟩], ex := true, fn := fun x => szRow x.1 x.2 }
noncomputable def szRowS (a : List GRow) (b : Int) : Option (Int) :=
 bif (decide ((w64 (b - (a.length : Int))) < 0)) then
  some ((-1))
 else
 loopD (fun (x1 : (List GRow) × Int × Int) =>
  bif (decide (x1.2.2 < (x1.1.length : Int))) then
   (idx x1.1 x1.2.2).bind fun e2 =>
   (szRow e2 x1.2.1).bind fun r3 =>
   bif (decide (r3 < 0)) then
    some (.inr ((-1)))
   else
    some (.inl (x1.1, r3, w64 (x1.2.2 + 1)))
  else
   some (.inr (x1.2.1))
 ) (a, w64 (b - (a.length : Int)), 0)
noncomputable def szRowSFS : Fsp := { fid := 101, ps := [⟨false, .list (.base .row)⟩, ⟨false, .base .int⟩], rs := [⟨false, .base .int⟩], ex := true, fn := fun x => szRowS x.1 x.2 }
noncomputable def szValueB (rszValue : GVal → Int → Option (Int)) (rszValueS : (List GVal) → Int → Option (Int)) (a : GVal) (b : Int) : Option (Int) :=
 bif (decide ((w64 (b - (a.text.length : Int))) < 0)) then
  some ((-1))
 else
 (rszValueS a.list (w64 (b - (a.text.length : Int)))).bind fun r1 =>
 bif (decide (r1 < 0)) then
  some ((-1))
 else
  (szStringS a.columns r1).bind fun r2 =>
  bif (decide (r2 < 0)) then
   some ((-1))
  else
   (szRowS a.rows r2).bind fun r3 =>
   bif (decide (r3 < 0)) then
    some ((-1))
   else
    some (r3)
noncomputable def szValueSB (rszValue : GVal → Int → Option (Int)) (rszValueS : (List GVal) → Int → Option (Int)) (a : List GVal) (b : Int) : Option (Int) :=
 bif (decide ((w64 (b - (a.length : Int))) < 0)) then
  some ((-1))
 else
 loopD (fun (x1 : (List GVal) × Int × Int) =>
  bif (decide (x1.2.2 < (x1.1.length : Int))) then
   (idx x1.1 x1.2.2).bind fun e2 =>
   (rszValue (reVal e2) x1.2.1).bind fun r3 =>
   bif (decide (r3 < 0)) then
    some (.inr ((-1)))
   else
    some (.inl (x1.1, r3, w64 (x1.2.2 + 1)))
  else
   some (.inr (x1.2.1))
 ) (a, w64 (b - (a.length : Int)), 0)
noncomputable def szValueG : Nat → (GVal → Int → Option (Int)) × ((List GVal) → Int → Option (Int))
 | 0 => (fun _ _ => none, fun _ _ => none)
 | n + 1 => (szValueB (szValueG n).1 (szValueG n).2, szValueSB (szValueG n).1 (szValueG n).2)
noncomputable def szValue (a : GVal) (b : Int) : Option (Int) := (szValueG (siz a + 1)).1 a b
noncomputable def szValueFS : Fsp := { fid := 59, ps := [⟨true, .base .val⟩, ⟨false, .base .int⟩], rs := [⟨false, .base .int⟩], ex := true, fn := fun x => szValue x.1 x.2 }
noncomputable def szValueFSN (n : Nat) : Fsp := { fid := 59, ps := [⟨true, .base .val⟩, ⟨false, .base .int⟩], rs := [⟨false, .base .int⟩], ex := true, fn := fun x => (szValueG n).1 x.1 x.2 }
noncomputable def szValueS (a : List GVal) (b : Int) : Option (Int) := (szValueG (siz a + 1)).2 a b
noncomputable def szValueSFS : Fsp := { fid := 99, ps := [⟨false, .list (.base .val)⟩, ⟨false, .base .int⟩], rs := [⟨false, .base .int⟩], ex := true, fn := fun x => szValueS x.1 x.2 }
noncomputable def szValueSFSN (n : Nat) : Fsp := { fid := 99, ps := [⟨false, .list (.base .val)⟩, ⟨false, .base .int⟩], rs := [⟨false, .base .int⟩], ex := true, fn := fun x => (szValueG n).2 x.1 x.2 }
noncomputable def szRead (a : GRead) (b : Int) : Option (Int) :=
 bif (decide ((w64 (b - (a.text.length : Int))) < 0)) then
  some ((-1))
 else
  (szValue (reVal a.result) (w64 (b - (a.text.length : Int)))).bind fun r1 =>
  bif (decide (r1 < 0)) then
   some ((-1))
  else
   some (r1)
noncomputable def szReadFS : Fsp := { fid := 36, ps := [⟨true, .base .read⟩, ⟨false, .base .int⟩], rs := [⟨false, .base .int⟩], ex := true, fn := fun x => szRead x.1 x.2 }
noncomputable def szReadS (a : List GRead) (b : Int) : Option (Int) :=
 bif (decide ((w64 (b - (a.length : Int))) < 0)) then
  some ((-1))
 else
 loopD (fun (x1 : (List GRead) × Int × Int) =>
  bif (decide (x1.2.2 < (x1.1.length : Int))) then
   (idx x1.1 x1.2.2).bind fun e2 =>
   (szRead (reRead e2) x1.2.1).bind fun r3 =>
   bif (decide (r3 < 0)) then
    some (.inr ((-1)))
   else
    some (.inl (x1.1, r3, w64 (x1.2.2 + 1)))
  else
   some (.inr (x1.2.1))
 ) (a, w64 (b - (a.length : Int)), 0)
noncomputable def szReadSFS : Fsp := { fid := 21, ps := [⟨false, .list (.base .read)⟩, ⟨false, .base .int⟩], rs := [⟨false, .base .int⟩], ex := true, fn := fun x => szReadS x.1 x.2 }
noncomputable def szOp (a : GOp) (b : Int) : Option (Int) :=
 (szIntS a.seen b).bind fun r1 =>
 bif (decide (r1 < 0)) then
  some ((-1))
 else
 (szEdit a.edit r1).bind fun r2 =>
 bif (decide (r2 < 0)) then
  some ((-1))
 else
 bif (decide ((w64 (r2 - (a.src.length : Int))) < 0)) then
  some ((-1))
 else
  bif (decide ((w64 ((w64 (r2 - (a.src.length : Int))) - (a.dst.length : Int))) < 0)) then
   some ((-1))
  else
   (szReadS a.reads (w64 ((w64 (r2 - (a.src.length : Int))) - (a.dst.length : Int)))).bind fun r3 =>
   bif (decide (r3 < 0)) then
    some ((-1))
   else
    some (r3)
noncomputable def szOpFS : Fsp := { fid := 13, ps := [⟨true, .base .op⟩, ⟨false, .base .int⟩], rs := [⟨false, .base .int⟩], ex := true, fn := fun x => szOp x.1 x.2 }
noncomputable def szOpS (a : List GOp) (b : Int) : Option (Int) :=
 bif (decide ((w64 (b - (a.length : Int))) < 0)) then
  some ((-1))
 else
 loopD (fun (x1 : (List GOp) × Int × Int) =>
  bif (decide (x1.2.2 < (x1.1.length : Int))) then
   (idx x1.1 x1.2.2).bind fun e2 =>
   (szOp e2 x1.2.1).bind fun r3 =>
   bif (decide (r3 < 0)) then
    some (.inr ((-1)))
   else
    some (.inl (x1.1, r3, w64 (x1.2.2 + 1)))
  else
   some (.inr (x1.2.1))
 ) (a, w64 (b - (a.length : Int)), 0)
noncomputable def szOpSFS : Fsp := { fid := 5, ps := [⟨false, .list (.base .op)⟩, ⟨false, .base .int⟩], rs := [⟨false, .base .int⟩], ex := true, fn := fun x => szOpS x.1 x.2 }
noncomputable def sL9Letter (a : Int) : Option (Bool) :=
 bif (decide (a ≥ 97)) then
  some ((decide (a ≤ 122)))
 else
  some (false)
noncomputable def sL9LetterFS : Fsp := { fid := 102, ps := [⟨false, .base .u8⟩], rs := [⟨false, .base .bool⟩], ex := true, fn := fun x => sL9Letter x }
noncomputable def sL9Digit (a : Int) : Option (Bool) :=
 bif (decide (a ≥ 48)) then
  some ((decide (a ≤ 57)))
 else
  some (false)
noncomputable def sL9DigitFS : Fsp := { fid := 103, ps := [⟨false, .base .u8⟩], rs := [⟨false, .base .bool⟩], ex := true, fn := fun x => sL9Digit x }
noncomputable def sFormatInt (a : Int) : Option (Str) :=
 bif (a == 0) then
  some ([48])
 else
 loopD (fun (x1 : Int × Bool × Str) =>
  bif (x1.1 != 0) then
   bif (decide ((x1.1.tmod 10) < 0)) then
    (gd ((bytesOf [w8 (w64 (48 + (w64 (0 - (x1.1.tmod 10)))))]).length + x1.2.2.length)).bind fun _ =>
    some (.inl (w64 (x1.1.tdiv 10), x1.2.1, (bytesOf [w8 (w64 (48 + (w64 (0 - (x1.1.tmod 10)))))]) ++ x1.2.2))
   else
    (gd ((bytesOf [w8 (w64 (48 + (x1.1.tmod 10)))]).length + x1.2.2.length)).bind fun _ =>
    some (.inl (w64 (x1.1.tdiv 10), x1.2.1, (bytesOf [w8 (w64 (48 + (x1.1.tmod 10)))]) ++ x1.2.2))
  else
   (
    bif x1.2.1 then
     (gd ([45].length + x1.2.2.length)).bind fun _ =>
     some ([45] ++ x1.2.2)
    else
     some (x1.2.2)
   ).bind fun r => some (.inr r)
 ) (a, (decide (a < 0)), [])
noncomputable def sFormatIntFS : Fsp := { fid := 72, ps := [⟨false, .base .int⟩], rs := [⟨false, .base .str⟩], ex := true, fn := fun x => sFormatInt x }
noncomputable def sL1Read (a : Str) (b : Int) : Option (Int × Bool) :=
 bif (decide ((a.length : Int) > 0)) then
  (idx a 0).bind fun c1 =>
  bif ((c1.toNat : Int) == 45) then
   (eff.cutL a (some 1) none).bind fun r2 =>
   bif (decide ((r2.length : Int) < 1)) then
    some (0, false)
   else
   bif (decide ((r2.length : Int) > b)) then
    some (0, false)
   else
   loopD (fun (x3 : Str × Bool × Str × Int × Int) =>
    bif (decide (x3.2.2.2.2 < (x3.2.2.1.length : Int))) then
     (idx x3.2.2.1 x3.2.2.2.2).bind fun c4 =>
     bif (decide ((c4.toNat : Int) < 48)) then
      some (.inr (0, false))
     else
      (idx x3.2.2.1 x3.2.2.2.2).bind fun c5 =>
      bif (decide ((c5.toNat : Int) > 57)) then
       some (.inr (0, false))
      else
       (idx x3.2.2.1 x3.2.2.2.2).bind fun c6 =>
       some (.inl (x3.1, x3.2.1, x3.2.2.1, w64 ((w64 (10 * x3.2.2.2.1)) + (w64 (w8 ((c6.toNat : Int) - 48)))), w64 (x3.2.2.2.2 + 1)))
    else
    (
     bif x3.2.1 then
      (sFormatInt (w64 (0 - x3.2.2.2.1))).bind fun r7 =>
      bif (!(r7 == x3.1)) then
       some (0, false)
      else
       some (w64 (0 - x3.2.2.2.1), true)
     else
      (sFormatInt x3.2.2.2.1).bind fun r8 =>
      bif (!(r8 == x3.1)) then
       some (0, false)
      else
       some (x3.2.2.2.1, true)
    ).bind fun r => some (.inr r)
   ) (a, ((c1.toNat : Int) == 45), r2, 0, 0)
  else
  bif (decide ((a.length : Int) < 1)) then
   some (0, false)
  else
  bif (decide ((a.length : Int) > b)) then
   some (0, false)
  else
  loopD (fun (x9 : Str × Bool × Str × Int × Int) =>
   bif (decide (x9.2.2.2.2 < (x9.2.2.1.length : Int))) then
    (idx x9.2.2.1 x9.2.2.2.2).bind fun c10 =>
    bif (decide ((c10.toNat : Int) < 48)) then
     some (.inr (0, false))
    else
     (idx x9.2.2.1 x9.2.2.2.2).bind fun c11 =>
     bif (decide ((c11.toNat : Int) > 57)) then
      some (.inr (0, false))
     else
      (idx x9.2.2.1 x9.2.2.2.2).bind fun c12 =>
      some (.inl (x9.1, x9.2.1, x9.2.2.1, w64 ((w64 (10 * x9.2.2.2.1)) + (w64 (w8 ((c12.toNat : Int) - 48)))), w64 (x9.2.2.2.2 + 1)))
   else
   (
    bif x9.2.1 then
     (sFormatInt (w64 (0 - x9.2.2.2.1))).bind fun r13 =>
     bif (!(r13 == x9.1)) then
      some (0, false)
     else
      some (w64 (0 - x9.2.2.2.1), true)
    else
     (sFormatInt x9.2.2.2.1).bind fun r14 =>
     bif (!(r14 == x9.1)) then
      some (0, false)
     else
      some (x9.2.2.2.1, true)
   ).bind fun r => some (.inr r)
  ) (a, ((c1.toNat : Int) == 45), a, 0, 0)
 else
 bif (decide ((a.length : Int) < 1)) then
  some (0, false)
 else
 bif (decide ((a.length : Int) > b)) then
  some (0, false)
 else
 loopD (fun (x15 : Str × Bool × Str × Int × Int) =>
  bif (decide (x15.2.2.2.2 < (x15.2.2.1.length : Int))) then
   (idx x15.2.2.1 x15.2.2.2.2).bind fun c16 =>
   bif (decide ((c16.toNat : Int) < 48)) then
    some (.inr (0, false))
   else
    (idx x15.2.2.1 x15.2.2.2.2).bind fun c17 =>
    bif (decide ((c17.toNat : Int) > 57)) then
     some (.inr (0, false))
    else
     (idx x15.2.2.1 x15.2.2.2.2).bind fun c18 =>
     some (.inl (x15.1, x15.2.1, x15.2.2.1, w64 ((w64 (10 * x15.2.2.2.1)) + (w64 (w8 ((c18.toNat : Int) - 48)))), w64 (x15.2.2.2.2 + 1)))
  else
  (
   bif x15.2.1 then
    (sFormatInt (w64 (0 - x15.2.2.2.1))).bind fun r19 =>
    bif (!(r19 == x15.1)) then
     some (0, false)
    else
     some (w64 (0 - x15.2.2.2.1), true)
   else
    (sFormatInt x15.2.2.2.1).bind fun r20 =>
    bif (!(r20 == x15.1)) then
     some (0, false)
    else
     some (x15.2.2.2.1, true)
  ).bind fun r => some (.inr r)
 ) (a, false, a, 0, 0)
noncomputable def sL1ReadFS : Fsp := { fid := 136, ps := [⟨false, .base .str⟩, ⟨false, .base .int⟩], rs := [⟨false, .base .int⟩, ⟨false, .base .bool⟩], ex := true, fn := fun x => sL1Read x.1 x.2 }
noncomputable def sParseInt (a : Str) : Option (Int × Bool) :=
 (sL1Read a 12).bind fun r1 =>
 some (r1.1, r1.2)
noncomputable def sParseIntFS : Fsp := { fid := 104, ps := [⟨false, .base .str⟩], rs := [⟨false, .base .int⟩, ⟨false, .base .bool⟩], ex := true, fn := fun x => sParseInt x }
noncomputable def sIsValidText (a : Str) : Option (Bool) :=
 loopD (fun (x1 : Str × Int) =>
  bif (decide (x1.2 < (x1.1.length : Int))) then
   (idx x1.1 x1.2).bind fun c2 =>
   bif (decide ((c2.toNat : Int) < 32)) then
    some (.inr (false))
   else
    (idx x1.1 x1.2).bind fun c3 =>
    bif (decide ((c3.toNat : Int) > 126)) then
     some (.inr (false))
    else
     (idx x1.1 x1.2).bind fun c4 =>
     bif ((c4.toNat : Int) == 34) then
      some (.inr (false))
     else
      some (.inl (x1.1, w64 (x1.2 + 1)))
  else
   some (.inr ((decide ((x1.1.length : Int) ≤ 20))))
 ) (a, 0)
noncomputable def sIsValidTextFS : Fsp := { fid := 105, ps := [⟨false, .base .str⟩], rs := [⟨false, .base .bool⟩], ex := true, fn := fun x => sIsValidText x }
noncomputable def sL9Symbol (a : Str) (b : Int) : Option (Int) :=
 (idx a b).bind fun c1 =>
 bif ((c1.toNat : Int) == 40) then
  some (1)
 else
 bif ((c1.toNat : Int) == 41) then
  some (1)
 else
 bif ((c1.toNat : Int) == 91) then
  some (1)
 else
 bif ((c1.toNat : Int) == 93) then
  some (1)
 else
 bif ((c1.toNat : Int) == 44) then
  some (1)
 else
 bif ((c1.toNat : Int) == 43) then
  some (1)
 else
 bif ((c1.toNat : Int) == 45) then
  some (1)
 else
 bif ((c1.toNat : Int) == 42) then
  some (1)
 else
 bif ((c1.toNat : Int) == 60) then
  some (1)
 else
 bif ((c1.toNat : Int) == 61) then
  bif (decide ((w64 (b + 1)) < (a.length : Int))) then
   (idx a (w64 (b + 1))).bind fun c2 =>
   bif ((c2.toNat : Int) == 61) then
    some (2)
   else
    some (1)
  else
   some (1)
 else
  some (0)
noncomputable def sL9SymbolFS : Fsp := { fid := 106, ps := [⟨false, .base .str⟩, ⟨false, .base .int⟩], rs := [⟨false, .base .int⟩], ex := true, fn := fun x => sL9Symbol x.1 x.2 }
noncomputable def sL9Next (a : Str) (b : Int) : Option (GToken × Int) :=
 (idx a b).bind fun c1 =>
 (sL9Letter (c1.toNat : Int)).bind fun r2 =>
 bif r2 then
  loopD (fun (x3 : Str × Int × Int × Int × Int × Str × Int × Int × Int × Str × Int) =>
   bif (decide (x3.2.2.2.2.2.2.2.2.2.2 < (x3.1.length : Int))) then
    (idx x3.1 x3.2.2.2.2.2.2.2.2.2.2).bind fun c4 =>
    (sL9Letter (c4.toNat : Int)).bind fun r5 =>
    bif r5 then
     some (.inl (x3.1, x3.2.1, x3.2.2.1, x3.2.2.2.1, x3.2.2.2.2.1, x3.2.2.2.2.2.1, x3.2.2.2.2.2.2.1, x3.2.2.2.2.2.2.2.1, x3.2.2.2.2.2.2.2.2.1, x3.2.2.2.2.2.2.2.2.2.1, w64 (x3.2.2.2.2.2.2.2.2.2.2 + 1)))
    else
    (idx x3.1 x3.2.2.2.2.2.2.2.2.2.2).bind fun c6 =>
    (sL9Digit (c6.toNat : Int)).bind fun r7 =>
    bif r7 then
     some (.inl (x3.1, x3.2.1, x3.2.2.1, x3.2.2.2.1, x3.2.2.2.2.1, x3.2.2.2.2.2.1, x3.2.2.2.2.2.2.1, x3.2.2.2.2.2.2.2.1, x3.2.2.2.2.2.2.2.2.1, x3.2.2.2.2.2.2.2.2.2.1, w64 (x3.2.2.2.2.2.2.2.2.2.2 + 1)))
    else
     (
      (eff.cutL x3.1 (some x3.2.1) (some x3.2.2.2.2.2.2.2.2.2.2)).bind fun r8 =>
      bif (decide ((w64 (x3.2.2.2.2.2.2.2.2.2.2 - x3.2.1)) > 8)) then
       some (GToken.mk 1 x3.2.2.2.2.2.2.2.1 x3.2.2.2.2.2.2.2.2.1 r8, 0)
      else
       some (GToken.mk 1 x3.2.2.2.2.2.2.2.1 x3.2.2.2.2.2.2.2.2.1 r8, w64 (x3.2.2.2.2.2.2.2.2.2.2 - x3.2.1))
     ).bind fun r => some (.inr r)
   else
    (
     (eff.cutL x3.1 (some x3.2.1) (some x3.2.2.2.2.2.2.2.2.2.2)).bind fun r9 =>
     bif (decide ((w64 (x3.2.2.2.2.2.2.2.2.2.2 - x3.2.1)) > 8)) then
      some (GToken.mk 1 x3.2.2.2.2.2.2.2.1 x3.2.2.2.2.2.2.2.2.1 r9, 0)
     else
      some (GToken.mk 1 x3.2.2.2.2.2.2.2.1 x3.2.2.2.2.2.2.2.2.1 r9, w64 (x3.2.2.2.2.2.2.2.2.2.2 - x3.2.1))
    ).bind fun r => some (.inr r)
  ) (a, b, 0, 0, 0, [], 0, 0, b, [], b)
 else
 (idx a b).bind fun c10 =>
 (sL9Digit (c10.toNat : Int)).bind fun r11 =>
 bif r11 then
  loopD (fun (x12 : Str × Int × Int × Int × Int × Str × Int × Int × Int × Str × Int) =>
   bif (decide (x12.2.2.2.2.2.2.2.2.2.2 < (x12.1.length : Int))) then
    (idx x12.1 x12.2.2.2.2.2.2.2.2.2.2).bind fun c13 =>
    (sL9Digit (c13.toNat : Int)).bind fun r14 =>
    bif r14 then
     some (.inl (x12.1, x12.2.1, x12.2.2.1, x12.2.2.2.1, x12.2.2.2.2.1, x12.2.2.2.2.2.1, x12.2.2.2.2.2.2.1, x12.2.2.2.2.2.2.2.1, x12.2.2.2.2.2.2.2.2.1, x12.2.2.2.2.2.2.2.2.2.1, w64 (x12.2.2.2.2.2.2.2.2.2.2 + 1)))
    else
     (
      (eff.cutL x12.1 (some x12.2.1) (some x12.2.2.2.2.2.2.2.2.2.2)).bind fun r15 =>
      (sParseInt r15).bind fun r16 =>
      bif (!r16.2) then
       some (GToken.mk 2 r16.1 x12.2.2.2.2.2.2.2.2.1 x12.2.2.2.2.2.2.2.2.2.1, 0)
      else
       bif (decide (r16.1 > 1000000000)) then
        some (GToken.mk 2 r16.1 x12.2.2.2.2.2.2.2.2.1 x12.2.2.2.2.2.2.2.2.2.1, 0)
       else
        some (GToken.mk 2 r16.1 x12.2.2.2.2.2.2.2.2.1 x12.2.2.2.2.2.2.2.2.2.1, w64 (x12.2.2.2.2.2.2.2.2.2.2 - x12.2.1))
     ).bind fun r => some (.inr r)
   else
    (
     (eff.cutL x12.1 (some x12.2.1) (some x12.2.2.2.2.2.2.2.2.2.2)).bind fun r17 =>
     (sParseInt r17).bind fun r18 =>
     bif (!r18.2) then
      some (GToken.mk 2 r18.1 x12.2.2.2.2.2.2.2.2.1 x12.2.2.2.2.2.2.2.2.2.1, 0)
     else
      bif (decide (r18.1 > 1000000000)) then
       some (GToken.mk 2 r18.1 x12.2.2.2.2.2.2.2.2.1 x12.2.2.2.2.2.2.2.2.2.1, 0)
      else
       some (GToken.mk 2 r18.1 x12.2.2.2.2.2.2.2.2.1 x12.2.2.2.2.2.2.2.2.2.1, w64 (x12.2.2.2.2.2.2.2.2.2.2 - x12.2.1))
    ).bind fun r => some (.inr r)
  ) (a, b, 0, 0, 0, [], 0, 0, b, [], b)
 else
 (idx a b).bind fun c19 =>
 bif ((c19.toNat : Int) == 34) then
  loopD (fun (x20 : Str × Int × Int × Int × Int × Str × Int × Int × Int × Str × Int) =>
   bif (decide (x20.2.2.2.2.2.2.2.2.2.2 < (x20.1.length : Int))) then
    (idx x20.1 x20.2.2.2.2.2.2.2.2.2.2).bind fun c21 =>
    bif ((c21.toNat : Int) != 34) then
     some (.inl (x20.1, x20.2.1, x20.2.2.1, x20.2.2.2.1, x20.2.2.2.2.1, x20.2.2.2.2.2.1, x20.2.2.2.2.2.2.1, x20.2.2.2.2.2.2.2.1, x20.2.2.2.2.2.2.2.2.1, x20.2.2.2.2.2.2.2.2.2.1, w64 (x20.2.2.2.2.2.2.2.2.2.2 + 1)))
    else
     (
      (eff.cutL x20.1 (some (w64 (x20.2.1 + 1))) (some x20.2.2.2.2.2.2.2.2.2.2)).bind fun r22 =>
      bif (x20.2.2.2.2.2.2.2.2.2.2 == (x20.1.length : Int)) then
       some (GToken.mk 3 x20.2.2.2.2.2.2.2.1 x20.2.2.2.2.2.2.2.2.1 r22, 0)
      else
       (sIsValidText r22).bind fun r23 =>
       bif (!r23) then
        some (GToken.mk 3 x20.2.2.2.2.2.2.2.1 x20.2.2.2.2.2.2.2.2.1 r22, 0)
       else
        some (GToken.mk 3 x20.2.2.2.2.2.2.2.1 x20.2.2.2.2.2.2.2.2.1 r22, w64 ((w64 (x20.2.2.2.2.2.2.2.2.2.2 + 1)) - x20.2.1))
     ).bind fun r => some (.inr r)
   else
    (
     (eff.cutL x20.1 (some (w64 (x20.2.1 + 1))) (some x20.2.2.2.2.2.2.2.2.2.2)).bind fun r24 =>
     bif (x20.2.2.2.2.2.2.2.2.2.2 == (x20.1.length : Int)) then
      some (GToken.mk 3 x20.2.2.2.2.2.2.2.1 x20.2.2.2.2.2.2.2.2.1 r24, 0)
     else
      (sIsValidText r24).bind fun r25 =>
      bif (!r25) then
       some (GToken.mk 3 x20.2.2.2.2.2.2.2.1 x20.2.2.2.2.2.2.2.2.1 r24, 0)
      else
       some (GToken.mk 3 x20.2.2.2.2.2.2.2.1 x20.2.2.2.2.2.2.2.2.1 r24, w64 ((w64 (x20.2.2.2.2.2.2.2.2.2.2 + 1)) - x20.2.1))
    ).bind fun r => some (.inr r)
  ) (a, b, 0, 0, 0, [], 0, 0, b, [], w64 (b + 1))
 else
  (sL9Symbol a b).bind fun r26 =>
  (eff.cutL a (some b) (some (w64 (b + r26)))).bind fun r27 =>
  some (GToken.mk 4 0 b r27, w64 ((w64 (b + r26)) - b))
noncomputable def sL9NextFS : Fsp := { fid := 60, ps := [⟨false, .base .str⟩, ⟨false, .base .int⟩], rs := [⟨true, .base .token⟩, ⟨false, .base .int⟩], ex := true, fn := fun x => sL9Next x.1 x.2 }
noncomputable def sTokenize (a : Str) : Option ((List GToken) × Int) :=
 bif (decide ((a.length : Int) > 120)) then
  some ([], 120)
 else
 loopD (fun (x1 : Str × (List GToken) × Int) =>
  bif (decide (x1.2.2 < (x1.1.length : Int))) then
   (idx x1.1 x1.2.2).bind fun c2 =>
   bif ((c2.toNat : Int) == 32) then
    some (.inl (x1.1, x1.2.1, w64 (x1.2.2 + 1)))
   else
    (sL9Next x1.1 x1.2.2).bind fun r3 =>
    bif (r3.2 == 0) then
     some (.inr ([], x1.2.2))
    else
     bif ((x1.2.1.length : Int) == 60) then
      some (.inr ([], x1.2.2))
     else
      (gd (x1.2.1.length + [r3.1].length)).bind fun _ =>
      some (.inl (x1.1, x1.2.1 ++ [r3.1], w64 (x1.2.2 + r3.2)))
  else
   some (.inr (x1.2.1, (-1)))
 ) (a, [], 0)
noncomputable def sTokenizeFS : Fsp := { fid := 37, ps := [⟨false, .base .str⟩], rs := [⟨false, .list (.base .token)⟩, ⟨false, .base .int⟩], ex := true, fn := fun x => sTokenize x }
noncomputable def sIsSymbol (a : GToken) (b : Str) : Option (Bool) :=
 bif (a.kind == 4) then
  some ((a.text == b))
 else
  some (false)
noncomputable def sIsSymbolFS : Fsp := { fid := 107, ps := [⟨true, .base .token⟩, ⟨false, .base .str⟩], rs := [⟨false, .base .bool⟩], ex := true, fn := fun x => sIsSymbol x.1 x.2 }
noncomputable def sIsKeyword (a : GToken) (b : Str) : Option (Bool) :=
 bif (a.kind == 1) then
  some ((a.text == b))
 else
  some (false)
noncomputable def sIsKeywordFS : Fsp := { fid := 108, ps := [⟨true, .base .token⟩, ⟨false, .base .str⟩], rs := [⟨false, .base .bool⟩], ex := true, fn := fun x => sIsKeyword x.1 x.2 }
noncomputable def sL11Sees (a : GRd) (b : Str) : Option (GRd × Bool) :=
 bif (decide (a.bad < 0)) then
  bif (decide (a.i < (a.toks.length : Int))) then
   (idx a.toks a.i).bind fun e1 =>
   (sIsSymbol e1 b).bind fun r2 =>
   bif r2 then
    some (a, true)
   else
    (idx a.toks a.i).bind fun e3 =>
    (sIsKeyword e3 b).bind fun r4 =>
    some (a, r4)
  else
   some (a, false)
 else
  some (a, false)
noncomputable def sL11SeesFS : Fsp := { fid := 61, ps := [⟨true, .base .rd⟩, ⟨false, .base .str⟩], rs := [⟨true, .base .rd⟩, ⟨false, .base .bool⟩], ex := false, fn := fun x => sL11Sees x.1 x.2 }
noncomputable def sL11Fail (a : GRd) : Option (GRd × GExpr) :=
 bif (decide (a.bad < 0)) then
  bif (decide (a.i < (a.toks.length : Int))) then
   (idx a.toks a.i).bind fun e1 =>
   some (GRd.mk a.toks a.i a.stop e1.pos, GExpr.mk 0 0 [] [])
  else
   some (GRd.mk a.toks a.i a.stop a.stop, GExpr.mk 0 0 [] [])
 else
  some (a, GExpr.mk 0 0 [] [])
noncomputable def sL11FailFS : Fsp := { fid := 39, ps := [⟨true, .base .rd⟩], rs := [⟨true, .base .rd⟩, ⟨true, .base .expr⟩], ex := false, sh := true, fn := fun x => sL11Fail x }
noncomputable def sL2Shape (a : Str) : Option (Bool) :=
 loopD (fun (x1 : Str × Int) =>
  bif (decide (x1.2 < (x1.1.length : Int))) then
   (idx x1.1 x1.2).bind fun c2 =>
   bif (decide ((c2.toNat : Int) ≥ 97)) then
    (idx x1.1 x1.2).bind fun c3 =>
    (idx x1.1 x1.2).bind fun c4 =>
    bif (decide ((c4.toNat : Int) ≥ 48)) then
     (idx x1.1 x1.2).bind fun c5 =>
     bif (!(decide ((c3.toNat : Int) ≤ 122))) then
      bif (x1.2 == 0) then
       some (.inr (false))
      else
       bif (!(decide ((c5.toNat : Int) ≤ 57))) then
        some (.inr (false))
       else
        some (.inl (x1.1, w64 (x1.2 + 1)))
     else
      some (.inl (x1.1, w64 (x1.2 + 1)))
    else
     bif (!(decide ((c3.toNat : Int) ≤ 122))) then
      bif (x1.2 == 0) then
       some (.inr (false))
      else
       some (.inr (false))
     else
      some (.inl (x1.1, w64 (x1.2 + 1)))
   else
   (idx x1.1 x1.2).bind fun c6 =>
   bif (decide ((c6.toNat : Int) ≥ 48)) then
    (idx x1.1 x1.2).bind fun c7 =>
    bif (x1.2 == 0) then
     some (.inr (false))
    else
     bif (!(decide ((c7.toNat : Int) ≤ 57))) then
      some (.inr (false))
     else
      some (.inl (x1.1, w64 (x1.2 + 1)))
   else
    bif (x1.2 == 0) then
     some (.inr (false))
    else
     some (.inr (false))
  else
   some (.inr ((decide ((x1.1.length : Int) > 0))))
 ) (a, 0)
noncomputable def sL2ShapeFS : Fsp := { fid := 68, ps := [⟨false, .base .str⟩], rs := [⟨false, .base .bool⟩], ex := true, fn := fun x => sL2Shape x }
noncomputable def sL1Has (a : List Str) (b : Str) : Option (Bool) :=
 loopD (fun (x1 : (List Str) × Str × Int) =>
  bif (decide (x1.2.2 < (x1.1.length : Int))) then
   (idx x1.1 x1.2.2).bind fun e2 =>
   bif (e2 == x1.2.1) then
    some (.inr (true))
   else
    some (.inl (x1.1, x1.2.1, w64 (x1.2.2 + 1)))
  else
   some (.inr (false))
 ) (a, b, 0)
noncomputable def sL1HasFS : Fsp := { fid := 23, ps := [⟨false, .list (.base .str)⟩, ⟨false, .base .str⟩], rs := [⟨false, .base .bool⟩], ex := true, fn := fun x => sL1Has x.1 x.2 }
noncomputable def sL2Reserved : Option ((List Str)) :=
 some (([[108, 101, 116], [105, 110], [105, 102], [116, 104, 101, 110], [101, 108, 115, 101], [102, 111, 114], [100, 111], [108, 101, 110], [115, 117, 109], [116, 97, 107, 101], [115, 107, 105, 112], [114, 97, 110, 103, 101], [110, 116, 104], [119, 104, 101, 114, 101], [107, 101, 101, 112], [97, 100, 100], [103, 114, 111, 117, 112], [106, 111, 105, 110], [99, 111, 108, 117, 109, 110], [114, 111, 119, 115], [99, 108, 111, 99, 107], [99, 104, 97, 110, 99, 101], [102, 105, 108, 101], [116, 97, 98, 108, 101]] : List Str))
noncomputable def sL2ReservedFS : Fsp := { fid := 113, ps := [], rs := [⟨false, .list (.base .str)⟩], ex := true, fn := fun x => sL2Reserved }
noncomputable def sIsReserved (a : Str) : Option (Bool) :=
 (sL2Reserved).bind fun r1 =>
 (sL1Has r1 a).bind fun r2 =>
 some (r2)
noncomputable def sIsReservedFS : Fsp := { fid := 69, ps := [⟨false, .base .str⟩], rs := [⟨false, .base .bool⟩], ex := true, fn := fun x => sIsReserved x }
noncomputable def sIsValidName (a : Str) : Option (Bool) :=
 (sL2Shape a).bind fun r1 =>
 bif r1 then
  bif (decide ((a.length : Int) ≤ 8)) then
   (sIsReserved a).bind fun r2 =>
   some ((!r2))
  else
   some (false)
 else
  some (false)
noncomputable def sIsValidNameFS : Fsp := { fid := 43, ps := [⟨false, .base .str⟩], rs := [⟨false, .base .bool⟩], ex := true, fn := fun x => sIsValidName x }
noncomputable def sL11Name (a : GRd) : Option (GRd × Str) :=
 bif (decide (a.bad ≥ 0)) then
  (sL11Fail a).bind fun r1 =>
  some (r1.1, [])
 else
 bif (decide (a.i ≥ (a.toks.length : Int))) then
  (sL11Fail a).bind fun r2 =>
  some (r2.1, [])
 else
 (idx a.toks a.i).bind fun e3 =>
 bif (e3.kind != 1) then
  (sL11Fail a).bind fun r4 =>
  some (r4.1, [])
 else
  (idx a.toks a.i).bind fun e5 =>
  (sIsValidName e5.text).bind fun r6 =>
  bif (!r6) then
   (sL11Fail a).bind fun r7 =>
   some (r7.1, [])
  else
   (idx a.toks (w64 ((w64 (a.i + 1)) - 1))).bind fun e8 =>
   some (GRd.mk a.toks (w64 (a.i + 1)) a.stop a.bad, e8.text)
noncomputable def sL11NameFS : Fsp := { fid := 62, ps := [⟨true, .base .rd⟩], rs := [⟨true, .base .rd⟩, ⟨false, .base .str⟩], ex := false, fn := fun x => sL11Name x }
noncomputable def sL11Take (a : GRd) (b : Str) : Option (GRd) :=
 (sL11Sees a b).bind fun r1 =>
 bif (!r1.2) then
  (sL11Fail r1.1).bind fun r2 =>
  some (r2.1)
 else
  some (GRd.mk r1.1.toks (w64 (r1.1.i + 1)) r1.1.stop r1.1.bad)
noncomputable def sL11TakeFS : Fsp := { fid := 63, ps := [⟨true, .base .rd⟩, ⟨false, .base .str⟩], rs := [⟨true, .base .rd⟩], ex := false, fn := fun x => sL11Take x.1 x.2 }
noncomputable def sL10Op (a : Int) (b : GExpr) (c : GExpr) : Option (GExpr) :=
 some (GExpr.mk 6 a [] [reExpr b, reExpr c])
noncomputable def sL10OpFS : Fsp := { fid := 110, ps := [⟨false, .base .int⟩, ⟨true, .base .expr⟩, ⟨true, .base .expr⟩], rs := [⟨true, .base .expr⟩], ex := false, sh := true, fn := fun x => sL10Op x.1 x.2.1 x.2.2 }
noncomputable def sArgumentCount (a : Str) : Option (Int) :=
 bif (a == [99, 108, 111, 99, 107]) then
  some (0)
 else
 bif (a == [108, 101, 110]) then
  some (1)
 else
 bif (a == [115, 117, 109]) then
  some (1)
 else
 bif (a == [114, 111, 119, 115]) then
  some (1)
 else
 bif (a == [99, 104, 97, 110, 99, 101]) then
  some (1)
 else
 bif (a == [102, 105, 108, 101]) then
  some (1)
 else
 bif (a == [116, 97, 107, 101]) then
  some (2)
 else
 bif (a == [115, 107, 105, 112]) then
  some (2)
 else
 bif (a == [114, 97, 110, 103, 101]) then
  some (2)
 else
 bif (a == [110, 116, 104]) then
  some (2)
 else
 bif (a == [107, 101, 101, 112]) then
  some (2)
 else
 bif (a == [99, 111, 108, 117, 109, 110]) then
  some (2)
 else
 bif (a == [116, 97, 98, 108, 101]) then
  some (2)
 else
 bif (a == [119, 104, 101, 114, 101]) then
  some (3)
 else
  bif (a == [103, 114, 111, 117, 112]) then
   some (3)
  else
   bif (a == [106, 111, 105, 110]) then
    some (3)
   else
    bif (a == [97, 100, 100]) then
     some (4)
    else
     some ((-1))
noncomputable def sArgumentCountFS : Fsp := { fid := 138, ps := [⟨false, .base .str⟩], rs := [⟨false, .base .int⟩], ex := true, fn := fun x => sArgumentCount x }
noncomputable def sL10Num (a : Int) : Option (GExpr) :=
 some (GExpr.mk 1 a [] [])
noncomputable def sL10NumFS : Fsp := { fid := 172, ps := [⟨false, .base .int⟩], rs := [⟨true, .base .expr⟩], ex := true, fn := fun x => sL10Num x }
noncomputable def sL10Name (a : Str) : Option (GExpr) :=
 some (GExpr.mk 3 0 a [])
noncomputable def sL10NameFS : Fsp := { fid := 173, ps := [⟨false, .base .str⟩], rs := [⟨true, .base .expr⟩], ex := true, fn := fun x => sL10Name x }
noncomputable def sL11ExprB (rsL11Expr : GRd → Option (GRd × GExpr)) (rsL11Compare : GRd → Option (GRd × GExpr)) (rsL11Sum : GRd → Option (GRd × GExpr)) (rsL11Product : GRd → Option (GRd × GExpr)) (rsL11Atom : GRd → Option (GRd × GExpr)) (rsL11Args : GRd → Str → Option (GRd × (List GExpr))) (a : GRd) : Option (GRd × GExpr) :=
 (sL11Sees a [108, 101, 116]).bind fun r1 =>
 bif r1.2 then
  (sL11Name (GRd.mk r1.1.toks (w64 (r1.1.i + 1)) r1.1.stop r1.1.bad)).bind fun r2 =>
  (sL11Take r2.1 [61]).bind fun r3 =>
  (rsL11Expr r3).bind fun r4 =>
  (sL11Take r4.1 [105, 110]).bind fun r5 =>
  (rsL11Expr r5).bind fun r6 =>
  some (r6.1, GExpr.mk 7 0 r2.2 [reExpr r4.2, reExpr r6.2])
 else
 (sL11Sees r1.1 [105, 102]).bind fun r7 =>
 bif r7.2 then
  (rsL11Expr (GRd.mk r7.1.toks (w64 (r7.1.i + 1)) r7.1.stop r7.1.bad)).bind fun r8 =>
  (sL11Take r8.1 [116, 104, 101, 110]).bind fun r9 =>
  (rsL11Expr r9).bind fun r10 =>
  (sL11Take r10.1 [101, 108, 115, 101]).bind fun r11 =>
  (rsL11Expr r11).bind fun r12 =>
  some (r12.1, GExpr.mk 8 0 [] [reExpr r8.2, reExpr r10.2, reExpr r12.2])
 else
 (sL11Sees r7.1 [102, 111, 114]).bind fun r13 =>
 bif r13.2 then
  (sL11Name (GRd.mk r13.1.toks (w64 (r13.1.i + 1)) r13.1.stop r13.1.bad)).bind fun r14 =>
  (sL11Take r14.1 [105, 110]).bind fun r15 =>
  (rsL11Expr r15).bind fun r16 =>
  (sL11Take r16.1 [100, 111]).bind fun r17 =>
  (rsL11Expr r17).bind fun r18 =>
  some (r18.1, GExpr.mk 9 0 r14.2 [reExpr r16.2, reExpr r18.2])
 else
  (rsL11Compare r13.1).bind fun r19 =>
  some (r19.1, reExpr r19.2)
noncomputable def sL11CompareB (rsL11Expr : GRd → Option (GRd × GExpr)) (rsL11Compare : GRd → Option (GRd × GExpr)) (rsL11Sum : GRd → Option (GRd × GExpr)) (rsL11Product : GRd → Option (GRd × GExpr)) (rsL11Atom : GRd → Option (GRd × GExpr)) (rsL11Args : GRd → Str → Option (GRd × (List GExpr))) (a : GRd) : Option (GRd × GExpr) :=
 (rsL11Sum a).bind fun r1 =>
 (sL11Sees r1.1 [60]).bind fun r2 =>
 bif r2.2 then
  (rsL11Sum (GRd.mk r2.1.toks (w64 (r2.1.i + 1)) r2.1.stop r2.1.bad)).bind fun r3 =>
  (sL10Op 4 (reExpr r1.2) (reExpr r3.2)).bind fun r4 =>
  some (r3.1, reExpr r4)
 else
  (sL11Sees r2.1 [61, 61]).bind fun r5 =>
  bif r5.2 then
   (rsL11Sum (GRd.mk r5.1.toks (w64 (r5.1.i + 1)) r5.1.stop r5.1.bad)).bind fun r6 =>
   (sL10Op 5 (reExpr r1.2) (reExpr r6.2)).bind fun r7 =>
   some (r6.1, reExpr r7)
  else
   some (r5.1, reExpr r1.2)
noncomputable def sL11SumB (rsL11Expr : GRd → Option (GRd × GExpr)) (rsL11Compare : GRd → Option (GRd × GExpr)) (rsL11Sum : GRd → Option (GRd × GExpr)) (rsL11Product : GRd → Option (GRd × GExpr)) (rsL11Atom : GRd → Option (GRd × GExpr)) (rsL11Args : GRd → Str → Option (GRd × (List GExpr))) (a : GRd) : Option (GRd × GExpr) :=
 (rsL11Product a).bind fun r1 =>
 loopD (fun (x2 : (List GToken) × Int × Int × Int × Int × Int × Str × (List GExpr) × Int × Int × Str × (List GExpr)) =>
  (sL11Sees (GRd.mk x2.1 x2.2.1 x2.2.2.1 x2.2.2.2.1) [43]).bind fun r3 =>
  bif r3.2 then
   (sL11Sees r3.1 [45]).bind fun r4 =>
   bif r4.2 then
    (rsL11Product (GRd.mk r4.1.toks (w64 (r4.1.i + 1)) r4.1.stop r4.1.bad)).bind fun r5 =>
    (sL10Op 2 (GExpr.mk x2.2.2.2.2.2.2.2.2.1 x2.2.2.2.2.2.2.2.2.2.1 x2.2.2.2.2.2.2.2.2.2.2.1 x2.2.2.2.2.2.2.2.2.2.2.2) (reExpr r5.2)).bind fun r6 =>
    some (.inl (r5.1.toks, r5.1.i, r5.1.stop, r5.1.bad, x2.2.2.2.2.1, x2.2.2.2.2.2.1, x2.2.2.2.2.2.2.1, x2.2.2.2.2.2.2.2.1, r6.kind, r6.n, r6.text, r6.args))
   else
    (rsL11Product (GRd.mk r4.1.toks (w64 (r4.1.i + 1)) r4.1.stop r4.1.bad)).bind fun r7 =>
    (sL10Op 1 (GExpr.mk x2.2.2.2.2.2.2.2.2.1 x2.2.2.2.2.2.2.2.2.2.1 x2.2.2.2.2.2.2.2.2.2.2.1 x2.2.2.2.2.2.2.2.2.2.2.2) (reExpr r7.2)).bind fun r8 =>
    some (.inl (r7.1.toks, r7.1.i, r7.1.stop, r7.1.bad, x2.2.2.2.2.1, x2.2.2.2.2.2.1, x2.2.2.2.2.2.2.1, x2.2.2.2.2.2.2.2.1, r8.kind, r8.n, r8.text, r8.args))
  else
  (sL11Sees r3.1 [45]).bind fun r9 =>
  bif r9.2 then
   (sL11Sees r9.1 [45]).bind fun r10 =>
   bif r10.2 then
    (rsL11Product (GRd.mk r10.1.toks (w64 (r10.1.i + 1)) r10.1.stop r10.1.bad)).bind fun r11 =>
    (sL10Op 2 (GExpr.mk x2.2.2.2.2.2.2.2.2.1 x2.2.2.2.2.2.2.2.2.2.1 x2.2.2.2.2.2.2.2.2.2.2.1 x2.2.2.2.2.2.2.2.2.2.2.2) (reExpr r11.2)).bind fun r12 =>
    some (.inl (r11.1.toks, r11.1.i, r11.1.stop, r11.1.bad, x2.2.2.2.2.1, x2.2.2.2.2.2.1, x2.2.2.2.2.2.2.1, x2.2.2.2.2.2.2.2.1, r12.kind, r12.n, r12.text, r12.args))
   else
    (rsL11Product (GRd.mk r10.1.toks (w64 (r10.1.i + 1)) r10.1.stop r10.1.bad)).bind fun r13 =>
    (sL10Op 1 (GExpr.mk x2.2.2.2.2.2.2.2.2.1 x2.2.2.2.2.2.2.2.2.2.1 x2.2.2.2.2.2.2.2.2.2.2.1 x2.2.2.2.2.2.2.2.2.2.2.2) (reExpr r13.2)).bind fun r14 =>
    some (.inl (r13.1.toks, r13.1.i, r13.1.stop, r13.1.bad, x2.2.2.2.2.1, x2.2.2.2.2.2.1, x2.2.2.2.2.2.2.1, x2.2.2.2.2.2.2.2.1, r14.kind, r14.n, r14.text, r14.args))
  else
   some (.inr (r9.1, GExpr.mk x2.2.2.2.2.2.2.2.2.1 x2.2.2.2.2.2.2.2.2.2.1 x2.2.2.2.2.2.2.2.2.2.2.1 x2.2.2.2.2.2.2.2.2.2.2.2))
 ) (r1.1.toks, r1.1.i, r1.1.stop, r1.1.bad, 0, 0, [], [], r1.2.kind, r1.2.n, r1.2.text, r1.2.args)
noncomputable def sL11ProductB (rsL11Expr : GRd → Option (GRd × GExpr)) (rsL11Compare : GRd → Option (GRd × GExpr)) (rsL11Sum : GRd → Option (GRd × GExpr)) (rsL11Product : GRd → Option (GRd × GExpr)) (rsL11Atom : GRd → Option (GRd × GExpr)) (rsL11Args : GRd → Str → Option (GRd × (List GExpr))) (a : GRd) : Option (GRd × GExpr) :=
 (rsL11Atom a).bind fun r1 =>
 loopD (fun (x2 : (List GToken) × Int × Int × Int × Int × Int × Str × (List GExpr) × Int × Int × Str × (List GExpr)) =>
  (sL11Sees (GRd.mk x2.1 x2.2.1 x2.2.2.1 x2.2.2.2.1) [42]).bind fun r3 =>
  bif r3.2 then
   (rsL11Atom (GRd.mk r3.1.toks (w64 (r3.1.i + 1)) r3.1.stop r3.1.bad)).bind fun r4 =>
   (sL10Op 3 (GExpr.mk x2.2.2.2.2.2.2.2.2.1 x2.2.2.2.2.2.2.2.2.2.1 x2.2.2.2.2.2.2.2.2.2.2.1 x2.2.2.2.2.2.2.2.2.2.2.2) (reExpr r4.2)).bind fun r5 =>
   some (.inl (r4.1.toks, r4.1.i, r4.1.stop, r4.1.bad, x2.2.2.2.2.1, x2.2.2.2.2.2.1, x2.2.2.2.2.2.2.1, x2.2.2.2.2.2.2.2.1, r5.kind, r5.n, r5.text, r5.args))
  else
   some (.inr (r3.1, GExpr.mk x2.2.2.2.2.2.2.2.2.1 x2.2.2.2.2.2.2.2.2.2.1 x2.2.2.2.2.2.2.2.2.2.2.1 x2.2.2.2.2.2.2.2.2.2.2.2))
 ) (r1.1.toks, r1.1.i, r1.1.stop, r1.1.bad, 0, 0, [], [], r1.2.kind, r1.2.n, r1.2.text, r1.2.args)
noncomputable def sL11AtomB (rsL11Expr : GRd → Option (GRd × GExpr)) (rsL11Compare : GRd → Option (GRd × GExpr)) (rsL11Sum : GRd → Option (GRd × GExpr)) (rsL11Product : GRd → Option (GRd × GExpr)) (rsL11Atom : GRd → Option (GRd × GExpr)) (rsL11Args : GRd → Str → Option (GRd × (List GExpr))) (a : GRd) : Option (GRd × GExpr) :=
 bif (decide (a.bad ≥ 0)) then
  (sL11Fail a).bind fun r1 =>
  some (r1.1, reExpr r1.2)
 else
 bif (decide (a.i ≥ (a.toks.length : Int))) then
  (sL11Fail a).bind fun r2 =>
  some (r2.1, reExpr r2.2)
 else
 (idx a.toks a.i).bind fun e3 =>
 bif (e3.kind == 2) then
  (sL10Num e3.n).bind fun r4 =>
  some (GRd.mk a.toks (w64 (a.i + 1)) a.stop a.bad, reExpr r4)
 else
 bif (e3.kind == 3) then
  some (GRd.mk a.toks (w64 (a.i + 1)) a.stop a.bad, GExpr.mk 2 0 e3.text [])
 else
 bif (e3.kind == 1) then
  (sIsValidName e3.text).bind fun r5 =>
  bif r5 then
   (sL10Name e3.text).bind fun r6 =>
   some (GRd.mk a.toks (w64 (a.i + 1)) a.stop a.bad, reExpr r6)
  else
  bif (e3.kind == 1) then
   (sArgumentCount e3.text).bind fun r7 =>
   bif (decide (r7 ≥ 0)) then
    (sL11Take (GRd.mk a.toks (w64 (a.i + 1)) a.stop a.bad) [40]).bind fun r8 =>
    (rsL11Args r8 [41]).bind fun r9 =>
    some (r9.1, GExpr.mk 5 0 e3.text r9.2)
   else
   (sIsSymbol e3 [91]).bind fun r10 =>
   bif r10 then
    (rsL11Args (GRd.mk a.toks (w64 (a.i + 1)) a.stop a.bad) [93]).bind fun r11 =>
    some (r11.1, GExpr.mk 4 0 [] r11.2)
   else
    (sIsSymbol e3 [40]).bind fun r12 =>
    bif r12 then
     (rsL11Expr (GRd.mk a.toks (w64 (a.i + 1)) a.stop a.bad)).bind fun r13 =>
     (sL11Take r13.1 [41]).bind fun r14 =>
     some (r14, reExpr r13.2)
    else
     (sL11Fail a).bind fun r15 =>
     some (r15.1, reExpr r15.2)
  else
  (sIsSymbol e3 [91]).bind fun r16 =>
  bif r16 then
   (rsL11Args (GRd.mk a.toks (w64 (a.i + 1)) a.stop a.bad) [93]).bind fun r17 =>
   some (r17.1, GExpr.mk 4 0 [] r17.2)
  else
   (sIsSymbol e3 [40]).bind fun r18 =>
   bif r18 then
    (rsL11Expr (GRd.mk a.toks (w64 (a.i + 1)) a.stop a.bad)).bind fun r19 =>
    (sL11Take r19.1 [41]).bind fun r20 =>
    some (r20, reExpr r19.2)
   else
    (sL11Fail a).bind fun r21 =>
    some (r21.1, reExpr r21.2)
 else
 bif (e3.kind == 1) then
  (sArgumentCount e3.text).bind fun r22 =>
  bif (decide (r22 ≥ 0)) then
   (sL11Take (GRd.mk a.toks (w64 (a.i + 1)) a.stop a.bad) [40]).bind fun r23 =>
   (rsL11Args r23 [41]).bind fun r24 =>
   some (r24.1, GExpr.mk 5 0 e3.text r24.2)
  else
  (sIsSymbol e3 [91]).bind fun r25 =>
  bif r25 then
   (rsL11Args (GRd.mk a.toks (w64 (a.i + 1)) a.stop a.bad) [93]).bind fun r26 =>
   some (r26.1, GExpr.mk 4 0 [] r26.2)
  else
   (sIsSymbol e3 [40]).bind fun r27 =>
   bif r27 then
    (rsL11Expr (GRd.mk a.toks (w64 (a.i + 1)) a.stop a.bad)).bind fun r28 =>
    (sL11Take r28.1 [41]).bind fun r29 =>
    some (r29, reExpr r28.2)
   else
    (sL11Fail a).bind fun r30 =>
    some (r30.1, reExpr r30.2)
 else
 (sIsSymbol e3 [91]).bind fun r31 =>
 bif r31 then
  (rsL11Args (GRd.mk a.toks (w64 (a.i + 1)) a.stop a.bad) [93]).bind fun r32 =>
  some (r32.1, GExpr.mk 4 0 [] r32.2)
 else
  (sIsSymbol e3 [40]).bind fun r33 =>
  bif r33 then
   (rsL11Expr (GRd.mk a.toks (w64 (a.i + 1)) a.stop a.bad)).bind fun r34 =>
   (sL11Take r34.1 [41]).bind fun r35 =>
   some (r35, reExpr r34.2)
  else
   (sL11Fail a).bind fun r36 =>
   some (r36.1, reExpr r36.2)
noncomputable def sL11ArgsB (rsL11Expr : GRd → Option (GRd × GExpr)) (rsL11Compare : GRd → Option (GRd × GExpr)) (rsL11Sum : GRd → Option (GRd × GExpr)) (rsL11Product : GRd → Option (GRd × GExpr)) (rsL11Atom : GRd → Option (GRd × GExpr)) (rsL11Args : GRd → Str → Option (GRd × (List GExpr))) (a : GRd) (b : Str) : Option (GRd × (List GExpr)) :=
 (sL11Sees a b).bind fun r1 =>
 bif r1.2 then
  some (GRd.mk r1.1.toks (w64 (r1.1.i + 1)) r1.1.stop r1.1.bad, [])
 else
 loopD (fun (x2 : (List GToken) × Int × Int × Int × Str × (List GExpr)) =>
  bif (decide (x2.2.2.2.1 < 0)) then
   (rsL11Expr (GRd.mk x2.1 x2.2.1 x2.2.2.1 x2.2.2.2.1)).bind fun r3 =>
   (gd (x2.2.2.2.2.2.length + [reExpr r3.2].length)).bind fun _ =>
   (sL11Sees r3.1 [44]).bind fun r4 =>
   bif (!r4.2) then
    (
     (sL11Take r4.1 x2.2.2.2.2.1).bind fun r5 =>
     some (r5, x2.2.2.2.2.2 ++ [reExpr r3.2])
    ).bind fun r => some (.inr r)
   else
    some (.inl (r4.1.toks, w64 (r4.1.i + 1), r4.1.stop, r4.1.bad, x2.2.2.2.2.1, x2.2.2.2.2.2 ++ [reExpr r3.2]))
  else
   (
    (sL11Take (GRd.mk x2.1 x2.2.1 x2.2.2.1 x2.2.2.2.1) x2.2.2.2.2.1).bind fun r6 =>
    some (r6, x2.2.2.2.2.2)
   ).bind fun r => some (.inr r)
 ) (r1.1.toks, r1.1.i, r1.1.stop, r1.1.bad, b, [])
noncomputable def sL11ExprG : Nat → (GRd → Option (GRd × GExpr)) × (GRd → Option (GRd × GExpr)) × (GRd → Option (GRd × GExpr)) × (GRd → Option (GRd × GExpr)) × (GRd → Option (GRd × GExpr)) × (GRd → Str → Option (GRd × (List GExpr)))
 | 0 => (fun _ => none, fun _ => none, fun _ => none, fun _ => none, fun _ => none, fun _ _ => none)
 | n + 1 => (sL11ExprB (sL11ExprG n).1 (sL11ExprG n).2.1 (sL11ExprG n).2.2.1 (sL11ExprG n).2.2.2.1 (sL11ExprG n).2.2.2.2.1 (sL11ExprG n).2.2.2.2.2, sL11CompareB (sL11ExprG n).1 (sL11ExprG n).2.1 (sL11ExprG n).2.2.1 (sL11ExprG n).2.2.2.1 (sL11ExprG n).2.2.2.2.1 (sL11ExprG n).2.2.2.2.2, sL11SumB (sL11ExprG n).1 (sL11ExprG n).2.1 (sL11ExprG n).2.2.1 (sL11ExprG n).2.2.2.1 (sL11ExprG n).2.2.2.2.1 (sL11ExprG n).2.2.2.2.2, sL11ProductB (sL11ExprG n).1 (sL11ExprG n).2.1 (sL11ExprG n).2.2.1 (sL11ExprG n).2.2.2.1 (sL11ExprG n).2.2.2.2.1 (sL11ExprG n).2.2.2.2.2, sL11AtomB (sL11ExprG n).1 (sL11ExprG n).2.1 (sL11ExprG n).2.2.1 (sL11ExprG n).2.2.2.1 (sL11ExprG n).2.2.2.2.1 (sL11ExprG n).2.2.2.2.2, sL11ArgsB (sL11ExprG n).1 (sL11ExprG n).2.1 (sL11ExprG n).2.2.1 (sL11ExprG n).2.2.2.1 (sL11ExprG n).2.2.2.2.1 (sL11ExprG n).2.2.2.2.2)
noncomputable def sL11Expr (a : GRd) : Option (GRd × GExpr) := (sL11ExprG (siz a + 1)).1 a
noncomputable def sL11ExprFS : Fsp := { fid := 38, ps := [⟨true, .base .rd⟩], rs := [⟨true, .base .rd⟩, ⟨true, .base .expr⟩], ex := false, fn := fun x => sL11Expr x }
noncomputable def sL11ExprFSN (n : Nat) : Fsp := { fid := 38, ps := [⟨true, .base .rd⟩], rs := [⟨true, .base .rd⟩, ⟨true, .base .expr⟩], ex := false, fn := fun x => (sL11ExprG n).1 x }
noncomputable def sL11Compare (a : GRd) : Option (GRd × GExpr) := (sL11ExprG (siz a + 1)).2.1 a
noncomputable def sL11CompareFS : Fsp := { fid := 64, ps := [⟨true, .base .rd⟩], rs := [⟨true, .base .rd⟩, ⟨true, .base .expr⟩], ex := false, fn := fun x => sL11Compare x }
noncomputable def sL11CompareFSN (n : Nat) : Fsp := { fid := 64, ps := [⟨true, .base .rd⟩], rs := [⟨true, .base .rd⟩, ⟨true, .base .expr⟩], ex := false, fn := fun x => (sL11ExprG n).2.1 x }
noncomputable def sL11Sum (a : GRd) : Option (GRd × GExpr) := (sL11ExprG (siz a + 1)).2.2.1 a
noncomputable def sL11SumFS : Fsp := { fid := 109, ps := [⟨true, .base .rd⟩], rs := [⟨true, .base .rd⟩, ⟨true, .base .expr⟩], ex := false, fn := fun x => sL11Sum x }
noncomputable def sL11SumFSN (n : Nat) : Fsp := { fid := 109, ps := [⟨true, .base .rd⟩], rs := [⟨true, .base .rd⟩, ⟨true, .base .expr⟩], ex := false, fn := fun x => (sL11ExprG n).2.2.1 x }
noncomputable def sL11Product (a : GRd) : Option (GRd × GExpr) := (sL11ExprG (siz a + 1)).2.2.2.1 a
noncomputable def sL11ProductFS : Fsp := { fid := 137, ps := [⟨true, .base .rd⟩], rs := [⟨true, .base .rd⟩, ⟨true, .base .expr⟩], ex := false, fn := fun x => sL11Product x }
noncomputable def sL11ProductFSN (n : Nat) : Fsp := { fid := 137, ps := [⟨true, .base .rd⟩], rs := [⟨true, .base .rd⟩, ⟨true, .base .expr⟩], ex := false, fn := fun x => (sL11ExprG n).2.2.2.1 x }
noncomputable def sL11Atom (a : GRd) : Option (GRd × GExpr) := (sL11ExprG (siz a + 1)).2.2.2.2.1 a
noncomputable def sL11AtomFS : Fsp := { fid := 150, ps := [⟨true, .base .rd⟩], rs := [⟨true, .base .rd⟩, ⟨true, .base .expr⟩], ex := false, fn := fun x => sL11Atom x }
noncomputable def sL11AtomFSN (n : Nat) : Fsp := { fid := 150, ps := [⟨true, .base .rd⟩], rs := [⟨true, .base .rd⟩, ⟨true, .base .expr⟩], ex := false, fn := fun x => (sL11ExprG n).2.2.2.2.1 x }
noncomputable def sL11Args (a : GRd) (b : Str) : Option (GRd × (List GExpr)) := (sL11ExprG (siz a + 1)).2.2.2.2.2 a b
noncomputable def sL11ArgsFS : Fsp := { fid := 174, ps := [⟨true, .base .rd⟩, ⟨false, .base .str⟩], rs := [⟨true, .base .rd⟩, ⟨false, .list (.base .expr)⟩], ex := false, fn := fun x => sL11Args x.1 x.2 }
noncomputable def sL11ArgsFSN (n : Nat) : Fsp := { fid := 174, ps := [⟨true, .base .rd⟩, ⟨false, .base .str⟩], rs := [⟨true, .base .rd⟩, ⟨false, .list (.base .expr)⟩], ex := false, fn := fun x => (sL11ExprG n).2.2.2.2.2 x.1 x.2 }
noncomputable def sL10LeftB (rsL10Left : GExpr → Int → Option (Int)) (a : GExpr) (b : Int) : Option (Int) :=
 loopD (fun (x1 : Int × Int × Int × Str × (List GExpr) × Int) =>
  bif (decide (x1.2.2.2.2.2 < (x1.2.2.2.2.1.length : Int))) then
   bif (decide (x1.1 ≥ 0)) then
    (idx x1.2.2.2.2.1 x1.2.2.2.2.2).bind fun e2 =>
    (rsL10Left (reExpr e2) x1.1).bind fun r3 =>
    some (.inl (r3, x1.2.1, x1.2.2.1, x1.2.2.2.1, x1.2.2.2.2.1, w64 (x1.2.2.2.2.2 + 1)))
   else
    some (.inr (x1.1))
  else
   some (.inr (x1.1))
 ) (w64 (b - 1), a.kind, a.n, a.text, a.args, 0)
noncomputable def sL10LeftG : Nat → (GExpr → Int → Option (Int))
 | 0 => fun _ _ => none
 | n + 1 => sL10LeftB (sL10LeftG n)
noncomputable def sL10Left (a : GExpr) (b : Int) : Option (Int) := (sL10LeftG (siz a + 1)) a b
noncomputable def sL10LeftFS : Fsp := { fid := 65, ps := [⟨true, .base .expr⟩, ⟨false, .base .int⟩], rs := [⟨false, .base .int⟩], ex := true, fn := fun x => sL10Left x.1 x.2 }
noncomputable def sL10LeftFSN (n : Nat) : Fsp := { fid := 65, ps := [⟨true, .base .expr⟩, ⟨false, .base .int⟩], rs := [⟨false, .base .int⟩], ex := true, fn := fun x => (sL10LeftG n) x.1 x.2 }
noncomputable def sL1Max (a : Int) (b : Int) : Option (Int) :=
 bif (decide (a > b)) then
  some (a)
 else
  some (b)
noncomputable def sL1MaxFS : Fsp := { fid := 111, ps := [⟨false, .base .int⟩, ⟨false, .base .int⟩], rs := [⟨false, .base .int⟩], ex := true, fn := fun x => sL1Max x.1 x.2 }
noncomputable def sNestingOfB (rsNestingOf : GExpr → Option (Int)) (a : GExpr) : Option (Int) :=
 loopD (fun (x1 : Int × Int × Str × (List GExpr) × Int × Int) =>
  bif (decide (x1.2.2.2.2.2 < (x1.2.2.2.1.length : Int))) then
   (idx x1.2.2.2.1 x1.2.2.2.2.2).bind fun e2 =>
   (rsNestingOf (reExpr e2)).bind fun r3 =>
   (sL1Max x1.2.2.2.2.1 r3).bind fun r4 =>
   some (.inl (x1.1, x1.2.1, x1.2.2.1, x1.2.2.2.1, r4, w64 (x1.2.2.2.2.2 + 1)))
  else
   some (.inr (w64 (x1.2.2.2.2.1 + 1)))
 ) (a.kind, a.n, a.text, a.args, 0, 0)
noncomputable def sNestingOfG : Nat → (GExpr → Option (Int))
 | 0 => fun _ => none
 | n + 1 => sNestingOfB (sNestingOfG n)
noncomputable def sNestingOf (a : GExpr) : Option (Int) := (sNestingOfG (siz a + 1)) a
noncomputable def sNestingOfFS : Fsp := { fid := 66, ps := [⟨true, .base .expr⟩], rs := [⟨false, .base .int⟩], ex := true, fn := fun x => sNestingOf x }
noncomputable def sNestingOfFSN (n : Nat) : Fsp := { fid := 66, ps := [⟨true, .base .expr⟩], rs := [⟨false, .base .int⟩], ex := true, fn := fun x => (sNestingOfG n) x }
noncomputable def sL1In (a : Int) (b : Int) (c : Int) : Option (Bool) :=
 bif (decide (a ≥ b)) then
  some ((decide (a ≤ c)))
 else
  some (false)
noncomputable def sL1InFS : Fsp := { fid := 115, ps := [⟨false, .base .int⟩, ⟨false, .base .int⟩, ⟨false, .base .int⟩], rs := [⟨false, .base .bool⟩], ex := true, fn := fun x => sL1In x.1 x.2.1 x.2.2 }
noncomputable def sL10Node (a : GExpr) : Option (Bool) :=
 bif (a.kind == 1) then
  bif ((a.args.length : Int) == 0) then
   bif (a.text == []) then
    (sL1In a.n 0 1000000000).bind fun r1 =>
    some (r1)
   else
    some (false)
  else
   some (false)
 else
 bif (a.kind == 2) then
  bif ((a.args.length : Int) == 0) then
   bif (a.n == 0) then
    (sIsValidText a.text).bind fun r2 =>
    some (r2)
   else
    some (false)
  else
   some (false)
 else
 bif (a.kind == 3) then
  bif ((a.args.length : Int) == 0) then
   bif (a.n == 0) then
    (sIsValidName a.text).bind fun r3 =>
    some (r3)
   else
    some (false)
  else
   some (false)
 else
 bif (a.kind == 4) then
  bif (a.n == 0) then
   bif (a.text == []) then
    some ((decide ((a.args.length : Int) ≤ 8)))
   else
    some (false)
  else
   some (false)
 else
 bif (a.kind == 5) then
  bif (a.n == 0) then
   (sArgumentCount a.text).bind fun r4 =>
   some (((a.args.length : Int) == r4))
  else
   some (false)
 else
 bif (a.kind == 6) then
  bif (a.text == []) then
   bif ((a.args.length : Int) == 2) then
    (sL1In a.n 1 5).bind fun r5 =>
    some (r5)
   else
    some (false)
  else
   some (false)
 else
 bif (a.kind == 7) then
  bif (a.n == 0) then
   bif ((a.args.length : Int) == 2) then
    (sIsValidName a.text).bind fun r6 =>
    some (r6)
   else
    some (false)
  else
   some (false)
 else
 bif (a.kind == 9) then
  bif (a.n == 0) then
   bif ((a.args.length : Int) == 2) then
    (sIsValidName a.text).bind fun r7 =>
    some (r7)
   else
    some (false)
  else
   some (false)
 else
  bif (a.kind == 8) then
   bif (a.n == 0) then
    bif (a.text == []) then
     some (((a.args.length : Int) == 3))
    else
     some (false)
   else
    some (false)
  else
   some (false)
noncomputable def sL10NodeFS : Fsp := { fid := 112, ps := [⟨true, .base .expr⟩], rs := [⟨false, .base .bool⟩], ex := true, fn := fun x => sL10Node x }
noncomputable def sL10AllB (rsL10All : GExpr → Option (Bool)) (a : GExpr) : Option (Bool) :=
 loopD (fun (x1 : Int × Int × Str × (List GExpr) × Int) =>
  bif (decide (x1.2.2.2.2 < (x1.2.2.2.1.length : Int))) then
   (idx x1.2.2.2.1 x1.2.2.2.2).bind fun e2 =>
   (rsL10All (reExpr e2)).bind fun r3 =>
   bif (!r3) then
    some (.inr (false))
   else
    some (.inl (x1.1, x1.2.1, x1.2.2.1, x1.2.2.2.1, w64 (x1.2.2.2.2 + 1)))
  else
   (
    (sL10Node (GExpr.mk x1.1 x1.2.1 x1.2.2.1 x1.2.2.2.1)).bind fun r4 =>
    some (r4)
   ).bind fun r => some (.inr r)
 ) (a.kind, a.n, a.text, a.args, 0)
noncomputable def sL10AllG : Nat → (GExpr → Option (Bool))
 | 0 => fun _ => none
 | n + 1 => sL10AllB (sL10AllG n)
noncomputable def sL10All (a : GExpr) : Option (Bool) := (sL10AllG (siz a + 1)) a
noncomputable def sL10AllFS : Fsp := { fid := 67, ps := [⟨true, .base .expr⟩], rs := [⟨false, .base .bool⟩], ex := true, fn := fun x => sL10All x }
noncomputable def sL10AllFSN (n : Nat) : Fsp := { fid := 67, ps := [⟨true, .base .expr⟩], rs := [⟨false, .base .bool⟩], ex := true, fn := fun x => (sL10AllG n) x }
noncomputable def sIsValidExpr (a : GExpr) : Option (Bool) :=
 (sL10Left (reExpr a) 40).bind fun r1 =>
 bif (decide (r1 ≥ 0)) then
  (sNestingOf (reExpr a)).bind fun r2 =>
  bif (decide (r2 ≤ 8)) then
   (sL10All (reExpr a)).bind fun r3 =>
   some (r3)
  else
   some (false)
 else
  some (false)
noncomputable def sIsValidExprFS : Fsp := { fid := 40, ps := [⟨true, .base .expr⟩], rs := [⟨false, .base .bool⟩], ex := true, fn := fun x => sIsValidExpr x }
noncomputable def sParseExpr (a : Str) : Option (GExpr × Int) :=
 (sTokenize a).bind fun r1 =>
 bif (decide (r1.2 ≥ 0)) then
  some (GExpr.mk 0 0 [] [], r1.2)
 else
 (sL11Expr (GRd.mk r1.1 0 (a.length : Int) (-1))).bind fun r2 =>
 bif (decide (r2.1.bad < 0)) then
  bif (decide (r2.1.i < (r1.1.length : Int))) then
   (sL11Fail r2.1).bind fun r3 =>
   bif (decide (r3.1.bad ≥ 0)) then
    some (GExpr.mk 0 0 [] [], r3.1.bad)
   else
    (sIsValidExpr (reExpr r2.2)).bind fun r4 =>
    bif (!r4) then
     some (GExpr.mk 0 0 [] [], 0)
    else
     some (reExpr r2.2, (-1))
  else
   bif (decide (r2.1.bad ≥ 0)) then
    some (GExpr.mk 0 0 [] [], r2.1.bad)
   else
    (sIsValidExpr (reExpr r2.2)).bind fun r5 =>
    bif (!r5) then
     some (GExpr.mk 0 0 [] [], 0)
    else
     some (reExpr r2.2, (-1))
 else
  bif (decide (r2.1.bad ≥ 0)) then
   some (GExpr.mk 0 0 [] [], r2.1.bad)
  else
   (sIsValidExpr (reExpr r2.2)).bind fun r6 =>
   bif (!r6) then
    some (GExpr.mk 0 0 [] [], 0)
   else
    some (reExpr r2.2, (-1))
noncomputable def sParseExprFS : Fsp := { fid := 22, ps := [⟨false, .base .str⟩], rs := [⟨true, .base .expr⟩, ⟨false, .base .int⟩], ex := false, fn := fun x => sParseExpr x }
noncomputable def sSortNames (a : List Str) : Option ((List Str)) :=
 loopD (fun (x1 : (List Str) × (List Str) × Int) =>
  bif (decide (x1.2.2 < (x1.1.length : Int))) then
   loopD (fun (x2 : (List Str) × (List Str) × Int × Int) =>
    bif (decide (x2.2.2.2 < (x2.2.1.length : Int))) then
     (idx x2.2.1 x2.2.2.2).bind fun _ =>
     (x2.2.1[x2.2.2.2.toNat]?).bind fun e4 =>
     (idx x2.1 x2.2.2.1).bind fun e5 =>
     bif (Op.bytesLess e4 e5) then
      some (.inl (x2.1, x2.2.1, x2.2.2.1, w64 (x2.2.2.2 + 1)))
     else
     (
      bif (decide (x2.2.2.2 < (x2.2.1.length : Int))) then
       (idx x2.2.1 x2.2.2.2).bind fun _ =>
       (x2.2.1[x2.2.2.2.toNat]?).bind fun e7 =>
       (idx x2.1 x2.2.2.1).bind fun e8 =>
       bif (e7 == e8) then
        some (.inl (x2.1, x2.2.1, w64 (x2.2.2.1 + 1)))
       else
        (cutAt x2.2.1 x2.2.2.2).bind fun m9 =>
        (gd (0 + (x2.2.1.drop m9).length)).bind fun _ =>
        (cutAt x2.2.1 x2.2.2.2).bind fun m10 =>
        (idx x2.1 x2.2.2.1).bind fun e11 =>
        (gd ((x2.2.1.take m10).length + ([e11] : List Str).length)).bind fun _ =>
        (gd (((x2.2.1.take m10) ++ ([e11] : List Str)).length + ([] ++ (x2.2.1.drop m9)).length)).bind fun _ =>
        some (.inl (x2.1, ((x2.2.1.take m10) ++ ([e11] : List Str)) ++ ([] ++ (x2.2.1.drop m9)), w64 (x2.2.2.1 + 1)))
      else
       (cutAt x2.2.1 x2.2.2.2).bind fun m12 =>
       (gd (0 + (x2.2.1.drop m12).length)).bind fun _ =>
       (cutAt x2.2.1 x2.2.2.2).bind fun m13 =>
       (idx x2.1 x2.2.2.1).bind fun e14 =>
       (gd ((x2.2.1.take m13).length + ([e14] : List Str).length)).bind fun _ =>
       (gd (((x2.2.1.take m13) ++ ([e14] : List Str)).length + ([] ++ (x2.2.1.drop m12)).length)).bind fun _ =>
       some (.inl (x2.1, ((x2.2.1.take m13) ++ ([e14] : List Str)) ++ ([] ++ (x2.2.1.drop m12)), w64 (x2.2.2.1 + 1)))
     ).bind fun r => some (.inr r)
    else
    (
     bif (decide (x2.2.2.2 < (x2.2.1.length : Int))) then
      (idx x2.2.1 x2.2.2.2).bind fun _ =>
      (x2.2.1[x2.2.2.2.toNat]?).bind fun e16 =>
      (idx x2.1 x2.2.2.1).bind fun e17 =>
      bif (e16 == e17) then
       some (.inl (x2.1, x2.2.1, w64 (x2.2.2.1 + 1)))
      else
       (cutAt x2.2.1 x2.2.2.2).bind fun m18 =>
       (gd (0 + (x2.2.1.drop m18).length)).bind fun _ =>
       (cutAt x2.2.1 x2.2.2.2).bind fun m19 =>
       (idx x2.1 x2.2.2.1).bind fun e20 =>
       (gd ((x2.2.1.take m19).length + ([e20] : List Str).length)).bind fun _ =>
       (gd (((x2.2.1.take m19) ++ ([e20] : List Str)).length + ([] ++ (x2.2.1.drop m18)).length)).bind fun _ =>
       some (.inl (x2.1, ((x2.2.1.take m19) ++ ([e20] : List Str)) ++ ([] ++ (x2.2.1.drop m18)), w64 (x2.2.2.1 + 1)))
     else
      (cutAt x2.2.1 x2.2.2.2).bind fun m21 =>
      (gd (0 + (x2.2.1.drop m21).length)).bind fun _ =>
      (cutAt x2.2.1 x2.2.2.2).bind fun m22 =>
      (idx x2.1 x2.2.2.1).bind fun e23 =>
      (gd ((x2.2.1.take m22).length + ([e23] : List Str).length)).bind fun _ =>
      (gd (((x2.2.1.take m22) ++ ([e23] : List Str)).length + ([] ++ (x2.2.1.drop m21)).length)).bind fun _ =>
      some (.inl (x2.1, ((x2.2.1.take m22) ++ ([e23] : List Str)) ++ ([] ++ (x2.2.1.drop m21)), w64 (x2.2.2.1 + 1)))
    ).bind fun r => some (.inr r)
   ) (x1.1, x1.2.1, x1.2.2, 0)
  else
   some (.inr (x1.2.1))
 ) (a, [], 0)
noncomputable def sSortNamesFS : Fsp := { fid := 41, ps := [⟨false, .list (.base .str)⟩], rs := [⟨false, .list (.base .str)⟩], ex := true, fn := fun x => sSortNames x }
noncomputable def sL13FreeB (rsL13Free : GExpr → (List Str) → Option ((List Str))) (a : GExpr) (b : List Str) : Option ((List Str)) :=
 bif (a.kind == 3) then
  (sL1Has b a.text).bind fun r1 =>
  bif (!r1) then
   (gd (0 + ([a.text] : List Str).length)).bind fun _ =>
   some ([] ++ ([a.text] : List Str))
  else
  loopD (fun (x2 : (List Str) × Int × Int × Str × (List GExpr) × (List Str) × Int) =>
   bif (decide (x2.2.2.2.2.2.2 < (x2.2.2.2.2.1.length : Int))) then
    bif (x2.2.1 == 7) then
     bif (decide (x2.2.2.2.2.2.2 > 0)) then
      (gd (0 + x2.1.length)).bind fun _ =>
      (gd (([] ++ x2.1).length + ([x2.2.2.2.1] : List Str).length)).bind fun _ =>
      (idx x2.2.2.2.2.1 x2.2.2.2.2.2.2).bind fun e3 =>
      (rsL13Free (reExpr e3) (([] ++ x2.1) ++ ([x2.2.2.2.1] : List Str))).bind fun r4 =>
      (gd (x2.2.2.2.2.2.1.length + r4.length)).bind fun _ =>
      some (.inl (x2.1, x2.2.1, x2.2.2.1, x2.2.2.2.1, x2.2.2.2.2.1, x2.2.2.2.2.2.1 ++ r4, w64 (x2.2.2.2.2.2.2 + 1)))
     else
      (idx x2.2.2.2.2.1 x2.2.2.2.2.2.2).bind fun e5 =>
      (rsL13Free (reExpr e5) x2.1).bind fun r6 =>
      (gd (x2.2.2.2.2.2.1.length + r6.length)).bind fun _ =>
      some (.inl (x2.1, x2.2.1, x2.2.2.1, x2.2.2.2.1, x2.2.2.2.2.1, x2.2.2.2.2.2.1 ++ r6, w64 (x2.2.2.2.2.2.2 + 1)))
    else
    bif (x2.2.1 == 9) then
     bif (decide (x2.2.2.2.2.2.2 > 0)) then
      (gd (0 + x2.1.length)).bind fun _ =>
      (gd (([] ++ x2.1).length + ([x2.2.2.2.1] : List Str).length)).bind fun _ =>
      (idx x2.2.2.2.2.1 x2.2.2.2.2.2.2).bind fun e7 =>
      (rsL13Free (reExpr e7) (([] ++ x2.1) ++ ([x2.2.2.2.1] : List Str))).bind fun r8 =>
      (gd (x2.2.2.2.2.2.1.length + r8.length)).bind fun _ =>
      some (.inl (x2.1, x2.2.1, x2.2.2.1, x2.2.2.2.1, x2.2.2.2.2.1, x2.2.2.2.2.2.1 ++ r8, w64 (x2.2.2.2.2.2.2 + 1)))
     else
      (idx x2.2.2.2.2.1 x2.2.2.2.2.2.2).bind fun e9 =>
      (rsL13Free (reExpr e9) x2.1).bind fun r10 =>
      (gd (x2.2.2.2.2.2.1.length + r10.length)).bind fun _ =>
      some (.inl (x2.1, x2.2.1, x2.2.2.1, x2.2.2.2.1, x2.2.2.2.2.1, x2.2.2.2.2.2.1 ++ r10, w64 (x2.2.2.2.2.2.2 + 1)))
    else
     (idx x2.2.2.2.2.1 x2.2.2.2.2.2.2).bind fun e11 =>
     (rsL13Free (reExpr e11) x2.1).bind fun r12 =>
     (gd (x2.2.2.2.2.2.1.length + r12.length)).bind fun _ =>
     some (.inl (x2.1, x2.2.1, x2.2.2.1, x2.2.2.2.1, x2.2.2.2.2.1, x2.2.2.2.2.2.1 ++ r12, w64 (x2.2.2.2.2.2.2 + 1)))
   else
    some (.inr (x2.2.2.2.2.2.1))
  ) (b, a.kind, a.n, a.text, a.args, [], 0)
 else
 loopD (fun (x13 : (List Str) × Int × Int × Str × (List GExpr) × (List Str) × Int) =>
  bif (decide (x13.2.2.2.2.2.2 < (x13.2.2.2.2.1.length : Int))) then
   bif (x13.2.1 == 7) then
    bif (decide (x13.2.2.2.2.2.2 > 0)) then
     (gd (0 + x13.1.length)).bind fun _ =>
     (gd (([] ++ x13.1).length + ([x13.2.2.2.1] : List Str).length)).bind fun _ =>
     (idx x13.2.2.2.2.1 x13.2.2.2.2.2.2).bind fun e14 =>
     (rsL13Free (reExpr e14) (([] ++ x13.1) ++ ([x13.2.2.2.1] : List Str))).bind fun r15 =>
     (gd (x13.2.2.2.2.2.1.length + r15.length)).bind fun _ =>
     some (.inl (x13.1, x13.2.1, x13.2.2.1, x13.2.2.2.1, x13.2.2.2.2.1, x13.2.2.2.2.2.1 ++ r15, w64 (x13.2.2.2.2.2.2 + 1)))
    else
     (idx x13.2.2.2.2.1 x13.2.2.2.2.2.2).bind fun e16 =>
     (rsL13Free (reExpr e16) x13.1).bind fun r17 =>
     (gd (x13.2.2.2.2.2.1.length + r17.length)).bind fun _ =>
     some (.inl (x13.1, x13.2.1, x13.2.2.1, x13.2.2.2.1, x13.2.2.2.2.1, x13.2.2.2.2.2.1 ++ r17, w64 (x13.2.2.2.2.2.2 + 1)))
   else
   bif (x13.2.1 == 9) then
    bif (decide (x13.2.2.2.2.2.2 > 0)) then
     (gd (0 + x13.1.length)).bind fun _ =>
     (gd (([] ++ x13.1).length + ([x13.2.2.2.1] : List Str).length)).bind fun _ =>
     (idx x13.2.2.2.2.1 x13.2.2.2.2.2.2).bind fun e18 =>
     (rsL13Free (reExpr e18) (([] ++ x13.1) ++ ([x13.2.2.2.1] : List Str))).bind fun r19 =>
     (gd (x13.2.2.2.2.2.1.length + r19.length)).bind fun _ =>
     some (.inl (x13.1, x13.2.1, x13.2.2.1, x13.2.2.2.1, x13.2.2.2.2.1, x13.2.2.2.2.2.1 ++ r19, w64 (x13.2.2.2.2.2.2 + 1)))
    else
     (idx x13.2.2.2.2.1 x13.2.2.2.2.2.2).bind fun e20 =>
     (rsL13Free (reExpr e20) x13.1).bind fun r21 =>
     (gd (x13.2.2.2.2.2.1.length + r21.length)).bind fun _ =>
     some (.inl (x13.1, x13.2.1, x13.2.2.1, x13.2.2.2.1, x13.2.2.2.2.1, x13.2.2.2.2.2.1 ++ r21, w64 (x13.2.2.2.2.2.2 + 1)))
   else
    (idx x13.2.2.2.2.1 x13.2.2.2.2.2.2).bind fun e22 =>
    (rsL13Free (reExpr e22) x13.1).bind fun r23 =>
    (gd (x13.2.2.2.2.2.1.length + r23.length)).bind fun _ =>
    some (.inl (x13.1, x13.2.1, x13.2.2.1, x13.2.2.2.1, x13.2.2.2.2.1, x13.2.2.2.2.2.1 ++ r23, w64 (x13.2.2.2.2.2.2 + 1)))
  else
   some (.inr (x13.2.2.2.2.2.1))
 ) (b, a.kind, a.n, a.text, a.args, [], 0)
noncomputable def sL13FreeG : Nat → (GExpr → (List Str) → Option ((List Str)))
 | 0 => fun _ _ => none
 | n + 1 => sL13FreeB (sL13FreeG n)
noncomputable def sL13Free (a : GExpr) (b : List Str) : Option ((List Str)) := (sL13FreeG (siz a + siz b + 1)) a b
noncomputable def sL13FreeFS : Fsp := { fid := 42, ps := [⟨true, .base .expr⟩, ⟨false, .list (.base .str)⟩], rs := [⟨false, .list (.base .str)⟩], ex := true, fn := fun x => sL13Free x.1 x.2 }
noncomputable def sL13FreeFSN (n : Nat) : Fsp := { fid := 42, ps := [⟨true, .base .expr⟩, ⟨false, .list (.base .str)⟩], rs := [⟨false, .list (.base .str)⟩], ex := true, fn := fun x => (sL13FreeG n) x.1 x.2 }
noncomputable def sFreeNames (a : GExpr) : Option ((List Str)) :=
 (sL13Free (reExpr a) []).bind fun r1 =>
 (sSortNames r1).bind fun r2 =>
 some (r2)
noncomputable def sFreeNamesFS : Fsp := { fid := 24, ps := [⟨true, .base .expr⟩], rs := [⟨false, .list (.base .str)⟩], ex := true, fn := fun x => sFreeNames x }
noncomputable def sL13CaughtB (rsL13Caught : GExpr → Str → Str → (List Str) → Option (Bool)) (a : GExpr) (b : Str) (c : Str) (d : List Str) : Option (Bool) :=
 bif (a.kind == 3) then
  (sL1Has d a.text).bind fun r1 =>
  bif (!r1) then
   bif (a.text == b) then
    (sL1Has d c).bind fun r2 =>
    some (r2)
   else
    some (false)
  else
  loopD (fun (x3 : Str × Str × (List Str) × Int × Int × Str × (List GExpr) × Int) =>
   bif (decide (x3.2.2.2.2.2.2.2 < (x3.2.2.2.2.2.2.1.length : Int))) then
    bif (x3.2.2.2.1 == 7) then
     bif (decide (x3.2.2.2.2.2.2.2 > 0)) then
      (gd (0 + x3.2.2.1.length)).bind fun _ =>
      (gd (([] ++ x3.2.2.1).length + ([x3.2.2.2.2.2.1] : List Str).length)).bind fun _ =>
      (idx x3.2.2.2.2.2.2.1 x3.2.2.2.2.2.2.2).bind fun e4 =>
      (rsL13Caught (reExpr e4) x3.1 x3.2.1 (([] ++ x3.2.2.1) ++ ([x3.2.2.2.2.2.1] : List Str))).bind fun r5 =>
      bif r5 then
       some (.inr (true))
      else
       some (.inl (x3.1, x3.2.1, x3.2.2.1, x3.2.2.2.1, x3.2.2.2.2.1, x3.2.2.2.2.2.1, x3.2.2.2.2.2.2.1, w64 (x3.2.2.2.2.2.2.2 + 1)))
     else
      (idx x3.2.2.2.2.2.2.1 x3.2.2.2.2.2.2.2).bind fun e6 =>
      (rsL13Caught (reExpr e6) x3.1 x3.2.1 x3.2.2.1).bind fun r7 =>
      bif r7 then
       some (.inr (true))
      else
       some (.inl (x3.1, x3.2.1, x3.2.2.1, x3.2.2.2.1, x3.2.2.2.2.1, x3.2.2.2.2.2.1, x3.2.2.2.2.2.2.1, w64 (x3.2.2.2.2.2.2.2 + 1)))
    else
    bif (x3.2.2.2.1 == 9) then
     bif (decide (x3.2.2.2.2.2.2.2 > 0)) then
      (gd (0 + x3.2.2.1.length)).bind fun _ =>
      (gd (([] ++ x3.2.2.1).length + ([x3.2.2.2.2.2.1] : List Str).length)).bind fun _ =>
      (idx x3.2.2.2.2.2.2.1 x3.2.2.2.2.2.2.2).bind fun e8 =>
      (rsL13Caught (reExpr e8) x3.1 x3.2.1 (([] ++ x3.2.2.1) ++ ([x3.2.2.2.2.2.1] : List Str))).bind fun r9 =>
      bif r9 then
       some (.inr (true))
      else
       some (.inl (x3.1, x3.2.1, x3.2.2.1, x3.2.2.2.1, x3.2.2.2.2.1, x3.2.2.2.2.2.1, x3.2.2.2.2.2.2.1, w64 (x3.2.2.2.2.2.2.2 + 1)))
     else
      (idx x3.2.2.2.2.2.2.1 x3.2.2.2.2.2.2.2).bind fun e10 =>
      (rsL13Caught (reExpr e10) x3.1 x3.2.1 x3.2.2.1).bind fun r11 =>
      bif r11 then
       some (.inr (true))
      else
       some (.inl (x3.1, x3.2.1, x3.2.2.1, x3.2.2.2.1, x3.2.2.2.2.1, x3.2.2.2.2.2.1, x3.2.2.2.2.2.2.1, w64 (x3.2.2.2.2.2.2.2 + 1)))
    else
     (idx x3.2.2.2.2.2.2.1 x3.2.2.2.2.2.2.2).bind fun e12 =>
     (rsL13Caught (reExpr e12) x3.1 x3.2.1 x3.2.2.1).bind fun r13 =>
     bif r13 then
      some (.inr (true))
     else
      some (.inl (x3.1, x3.2.1, x3.2.2.1, x3.2.2.2.1, x3.2.2.2.2.1, x3.2.2.2.2.2.1, x3.2.2.2.2.2.2.1, w64 (x3.2.2.2.2.2.2.2 + 1)))
   else
    some (.inr (false))
  ) (b, c, d, a.kind, a.n, a.text, a.args, 0)
 else
 loopD (fun (x14 : Str × Str × (List Str) × Int × Int × Str × (List GExpr) × Int) =>
  bif (decide (x14.2.2.2.2.2.2.2 < (x14.2.2.2.2.2.2.1.length : Int))) then
   bif (x14.2.2.2.1 == 7) then
    bif (decide (x14.2.2.2.2.2.2.2 > 0)) then
     (gd (0 + x14.2.2.1.length)).bind fun _ =>
     (gd (([] ++ x14.2.2.1).length + ([x14.2.2.2.2.2.1] : List Str).length)).bind fun _ =>
     (idx x14.2.2.2.2.2.2.1 x14.2.2.2.2.2.2.2).bind fun e15 =>
     (rsL13Caught (reExpr e15) x14.1 x14.2.1 (([] ++ x14.2.2.1) ++ ([x14.2.2.2.2.2.1] : List Str))).bind fun r16 =>
     bif r16 then
      some (.inr (true))
     else
      some (.inl (x14.1, x14.2.1, x14.2.2.1, x14.2.2.2.1, x14.2.2.2.2.1, x14.2.2.2.2.2.1, x14.2.2.2.2.2.2.1, w64 (x14.2.2.2.2.2.2.2 + 1)))
    else
     (idx x14.2.2.2.2.2.2.1 x14.2.2.2.2.2.2.2).bind fun e17 =>
     (rsL13Caught (reExpr e17) x14.1 x14.2.1 x14.2.2.1).bind fun r18 =>
     bif r18 then
      some (.inr (true))
     else
      some (.inl (x14.1, x14.2.1, x14.2.2.1, x14.2.2.2.1, x14.2.2.2.2.1, x14.2.2.2.2.2.1, x14.2.2.2.2.2.2.1, w64 (x14.2.2.2.2.2.2.2 + 1)))
   else
   bif (x14.2.2.2.1 == 9) then
    bif (decide (x14.2.2.2.2.2.2.2 > 0)) then
     (gd (0 + x14.2.2.1.length)).bind fun _ =>
     (gd (([] ++ x14.2.2.1).length + ([x14.2.2.2.2.2.1] : List Str).length)).bind fun _ =>
     (idx x14.2.2.2.2.2.2.1 x14.2.2.2.2.2.2.2).bind fun e19 =>
     (rsL13Caught (reExpr e19) x14.1 x14.2.1 (([] ++ x14.2.2.1) ++ ([x14.2.2.2.2.2.1] : List Str))).bind fun r20 =>
     bif r20 then
      some (.inr (true))
     else
      some (.inl (x14.1, x14.2.1, x14.2.2.1, x14.2.2.2.1, x14.2.2.2.2.1, x14.2.2.2.2.2.1, x14.2.2.2.2.2.2.1, w64 (x14.2.2.2.2.2.2.2 + 1)))
    else
     (idx x14.2.2.2.2.2.2.1 x14.2.2.2.2.2.2.2).bind fun e21 =>
     (rsL13Caught (reExpr e21) x14.1 x14.2.1 x14.2.2.1).bind fun r22 =>
     bif r22 then
      some (.inr (true))
     else
      some (.inl (x14.1, x14.2.1, x14.2.2.1, x14.2.2.2.1, x14.2.2.2.2.1, x14.2.2.2.2.2.1, x14.2.2.2.2.2.2.1, w64 (x14.2.2.2.2.2.2.2 + 1)))
   else
    (idx x14.2.2.2.2.2.2.1 x14.2.2.2.2.2.2.2).bind fun e23 =>
    (rsL13Caught (reExpr e23) x14.1 x14.2.1 x14.2.2.1).bind fun r24 =>
    bif r24 then
     some (.inr (true))
    else
     some (.inl (x14.1, x14.2.1, x14.2.2.1, x14.2.2.2.1, x14.2.2.2.2.1, x14.2.2.2.2.2.1, x14.2.2.2.2.2.2.1, w64 (x14.2.2.2.2.2.2.2 + 1)))
  else
   some (.inr (false))
 ) (b, c, d, a.kind, a.n, a.text, a.args, 0)
noncomputable def sL13CaughtG : Nat → (GExpr → Str → Str → (List Str) → Option (Bool))
 | 0 => fun _ _ _ _ => none
 | n + 1 => sL13CaughtB (sL13CaughtG n)
noncomputable def sL13Caught (a : GExpr) (b : Str) (c : Str) (d : List Str) : Option (Bool) := (sL13CaughtG (siz a + siz d + 1)) a b c d
noncomputable def sL13CaughtFS : Fsp := { fid := 70, ps := [⟨true, .base .expr⟩, ⟨false, .base .str⟩, ⟨false, .base .str⟩, ⟨false, .list (.base .str)⟩], rs := [⟨false, .base .bool⟩], ex := true, fn := fun x => sL13Caught x.1 x.2.1 x.2.2.1 x.2.2.2 }
noncomputable def sL13CaughtFSN (n : Nat) : Fsp := { fid := 70, ps := [⟨true, .base .expr⟩, ⟨false, .base .str⟩, ⟨false, .base .str⟩, ⟨false, .list (.base .str)⟩], rs := [⟨false, .base .bool⟩], ex := true, fn := fun x => (sL13CaughtG n) x.1 x.2.1 x.2.2.1 x.2.2.2 }
noncomputable def sIsCaptured (a : GExpr) (b : Str) (c : Str) : Option (Bool) :=
 (sL13Caught (reExpr a) b c []).bind fun r1 =>
 some (r1)
noncomputable def sIsCapturedFS : Fsp := { fid := 44, ps := [⟨true, .base .expr⟩, ⟨false, .base .str⟩, ⟨false, .base .str⟩], rs := [⟨false, .base .bool⟩], ex := true, fn := fun x => sIsCaptured x.1 x.2.1 x.2.2 }
noncomputable def sL10CopyB (rsL10Copy : GExpr → Option (GExpr)) (a : GExpr) : Option (GExpr) :=
 loopD (fun (x1 : Int × Int × Str × (List GExpr) × Int × Int × Str × (List GExpr) × Int × Int × Str × (List GExpr) × Int) =>
  bif (decide (x1.2.2.2.2.2.2.2.2.2.2.2.2 < (x1.2.2.2.1.length : Int))) then
   (idx x1.2.2.2.1 x1.2.2.2.2.2.2.2.2.2.2.2.2).bind fun e2 =>
   (rsL10Copy (reExpr e2)).bind fun r3 =>
   (gd (x1.2.2.2.2.2.2.2.2.2.2.2.1.length + [reExpr r3].length)).bind fun _ =>
   some (.inl (x1.1, x1.2.1, x1.2.2.1, x1.2.2.2.1, x1.2.2.2.2.1, x1.2.2.2.2.2.1, x1.2.2.2.2.2.2.1, x1.2.2.2.2.2.2.2.1, x1.2.2.2.2.2.2.2.2.1, x1.2.2.2.2.2.2.2.2.2.1, x1.2.2.2.2.2.2.2.2.2.2.1, x1.2.2.2.2.2.2.2.2.2.2.2.1 ++ [reExpr r3], w64 (x1.2.2.2.2.2.2.2.2.2.2.2.2 + 1)))
  else
   some (.inr (GExpr.mk x1.2.2.2.2.2.2.2.2.1 x1.2.2.2.2.2.2.2.2.2.1 x1.2.2.2.2.2.2.2.2.2.2.1 x1.2.2.2.2.2.2.2.2.2.2.2.1))
 ) (a.kind, a.n, a.text, a.args, 0, 0, [], [], a.kind, a.n, a.text, [], 0)
noncomputable def sL10CopyG : Nat → (GExpr → Option (GExpr))
 | 0 => fun _ => none
 | n + 1 => sL10CopyB (sL10CopyG n)
noncomputable def sL10Copy (a : GExpr) : Option (GExpr) := (sL10CopyG (siz a + 1)) a
noncomputable def sL10CopyFS : Fsp := { fid := 71, ps := [⟨true, .base .expr⟩], rs := [⟨true, .base .expr⟩], ex := true, fn := fun x => sL10Copy x }
noncomputable def sL10CopyFSN (n : Nat) : Fsp := { fid := 71, ps := [⟨true, .base .expr⟩], rs := [⟨true, .base .expr⟩], ex := true, fn := fun x => (sL10CopyG n) x }
noncomputable def sL13RenameB (rsL13Rename : GExpr → Str → Str → Option (GExpr)) (a : GExpr) (b : Str) (c : Str) : Option (GExpr) :=
 bif (a.kind == 3) then
  bif (a.text == b) then
   loopD (fun (x1 : Str × Str × Int × Int × Str × (List GExpr) × Int × Int × Str × (List GExpr) × Int × Int × Str × (List GExpr) × Int) =>
    bif (decide (x1.2.2.2.2.2.2.2.2.2.2.2.2.2.2 < (x1.2.2.2.2.2.1.length : Int))) then
     bif (x1.2.2.1 == 7) then
      bif (x1.2.2.2.2.2.2.2.2.2.2.2.2.2.2 == 1) then
       bif (x1.2.2.2.2.1 == x1.1) then
        (idx x1.2.2.2.2.2.1 x1.2.2.2.2.2.2.2.2.2.2.2.2.2.2).bind fun e2 =>
        (sL10Copy (reExpr e2)).bind fun r3 =>
        (gd (x1.2.2.2.2.2.2.2.2.2.2.2.2.2.1.length + [reExpr r3].length)).bind fun _ =>
        some (.inl (x1.1, x1.2.1, x1.2.2.1, x1.2.2.2.1, x1.2.2.2.2.1, x1.2.2.2.2.2.1, x1.2.2.2.2.2.2.1, x1.2.2.2.2.2.2.2.1, x1.2.2.2.2.2.2.2.2.1, x1.2.2.2.2.2.2.2.2.2.1, x1.2.2.2.2.2.2.2.2.2.2.1, x1.2.2.2.2.2.2.2.2.2.2.2.1, x1.2.2.2.2.2.2.2.2.2.2.2.2.1, x1.2.2.2.2.2.2.2.2.2.2.2.2.2.1 ++ [reExpr r3], w64 (x1.2.2.2.2.2.2.2.2.2.2.2.2.2.2 + 1)))
       else
        (idx x1.2.2.2.2.2.1 x1.2.2.2.2.2.2.2.2.2.2.2.2.2.2).bind fun e4 =>
        (rsL13Rename (reExpr e4) x1.1 x1.2.1).bind fun r5 =>
        (gd (x1.2.2.2.2.2.2.2.2.2.2.2.2.2.1.length + [reExpr r5].length)).bind fun _ =>
        some (.inl (x1.1, x1.2.1, x1.2.2.1, x1.2.2.2.1, x1.2.2.2.2.1, x1.2.2.2.2.2.1, x1.2.2.2.2.2.2.1, x1.2.2.2.2.2.2.2.1, x1.2.2.2.2.2.2.2.2.1, x1.2.2.2.2.2.2.2.2.2.1, x1.2.2.2.2.2.2.2.2.2.2.1, x1.2.2.2.2.2.2.2.2.2.2.2.1, x1.2.2.2.2.2.2.2.2.2.2.2.2.1, x1.2.2.2.2.2.2.2.2.2.2.2.2.2.1 ++ [reExpr r5], w64 (x1.2.2.2.2.2.2.2.2.2.2.2.2.2.2 + 1)))
      else
       (idx x1.2.2.2.2.2.1 x1.2.2.2.2.2.2.2.2.2.2.2.2.2.2).bind fun e6 =>
       (rsL13Rename (reExpr e6) x1.1 x1.2.1).bind fun r7 =>
       (gd (x1.2.2.2.2.2.2.2.2.2.2.2.2.2.1.length + [reExpr r7].length)).bind fun _ =>
       some (.inl (x1.1, x1.2.1, x1.2.2.1, x1.2.2.2.1, x1.2.2.2.2.1, x1.2.2.2.2.2.1, x1.2.2.2.2.2.2.1, x1.2.2.2.2.2.2.2.1, x1.2.2.2.2.2.2.2.2.1, x1.2.2.2.2.2.2.2.2.2.1, x1.2.2.2.2.2.2.2.2.2.2.1, x1.2.2.2.2.2.2.2.2.2.2.2.1, x1.2.2.2.2.2.2.2.2.2.2.2.2.1, x1.2.2.2.2.2.2.2.2.2.2.2.2.2.1 ++ [reExpr r7], w64 (x1.2.2.2.2.2.2.2.2.2.2.2.2.2.2 + 1)))
     else
     bif (x1.2.2.1 == 9) then
      bif (x1.2.2.2.2.2.2.2.2.2.2.2.2.2.2 == 1) then
       bif (x1.2.2.2.2.1 == x1.1) then
        (idx x1.2.2.2.2.2.1 x1.2.2.2.2.2.2.2.2.2.2.2.2.2.2).bind fun e8 =>
        (sL10Copy (reExpr e8)).bind fun r9 =>
        (gd (x1.2.2.2.2.2.2.2.2.2.2.2.2.2.1.length + [reExpr r9].length)).bind fun _ =>
        some (.inl (x1.1, x1.2.1, x1.2.2.1, x1.2.2.2.1, x1.2.2.2.2.1, x1.2.2.2.2.2.1, x1.2.2.2.2.2.2.1, x1.2.2.2.2.2.2.2.1, x1.2.2.2.2.2.2.2.2.1, x1.2.2.2.2.2.2.2.2.2.1, x1.2.2.2.2.2.2.2.2.2.2.1, x1.2.2.2.2.2.2.2.2.2.2.2.1, x1.2.2.2.2.2.2.2.2.2.2.2.2.1, x1.2.2.2.2.2.2.2.2.2.2.2.2.2.1 ++ [reExpr r9], w64 (x1.2.2.2.2.2.2.2.2.2.2.2.2.2.2 + 1)))
       else
        (idx x1.2.2.2.2.2.1 x1.2.2.2.2.2.2.2.2.2.2.2.2.2.2).bind fun e10 =>
        (rsL13Rename (reExpr e10) x1.1 x1.2.1).bind fun r11 =>
        (gd (x1.2.2.2.2.2.2.2.2.2.2.2.2.2.1.length + [reExpr r11].length)).bind fun _ =>
        some (.inl (x1.1, x1.2.1, x1.2.2.1, x1.2.2.2.1, x1.2.2.2.2.1, x1.2.2.2.2.2.1, x1.2.2.2.2.2.2.1, x1.2.2.2.2.2.2.2.1, x1.2.2.2.2.2.2.2.2.1, x1.2.2.2.2.2.2.2.2.2.1, x1.2.2.2.2.2.2.2.2.2.2.1, x1.2.2.2.2.2.2.2.2.2.2.2.1, x1.2.2.2.2.2.2.2.2.2.2.2.2.1, x1.2.2.2.2.2.2.2.2.2.2.2.2.2.1 ++ [reExpr r11], w64 (x1.2.2.2.2.2.2.2.2.2.2.2.2.2.2 + 1)))
      else
       (idx x1.2.2.2.2.2.1 x1.2.2.2.2.2.2.2.2.2.2.2.2.2.2).bind fun e12 =>
       (rsL13Rename (reExpr e12) x1.1 x1.2.1).bind fun r13 =>
       (gd (x1.2.2.2.2.2.2.2.2.2.2.2.2.2.1.length + [reExpr r13].length)).bind fun _ =>
       some (.inl (x1.1, x1.2.1, x1.2.2.1, x1.2.2.2.1, x1.2.2.2.2.1, x1.2.2.2.2.2.1, x1.2.2.2.2.2.2.1, x1.2.2.2.2.2.2.2.1, x1.2.2.2.2.2.2.2.2.1, x1.2.2.2.2.2.2.2.2.2.1, x1.2.2.2.2.2.2.2.2.2.2.1, x1.2.2.2.2.2.2.2.2.2.2.2.1, x1.2.2.2.2.2.2.2.2.2.2.2.2.1, x1.2.2.2.2.2.2.2.2.2.2.2.2.2.1 ++ [reExpr r13], w64 (x1.2.2.2.2.2.2.2.2.2.2.2.2.2.2 + 1)))
     else
      (idx x1.2.2.2.2.2.1 x1.2.2.2.2.2.2.2.2.2.2.2.2.2.2).bind fun e14 =>
      (rsL13Rename (reExpr e14) x1.1 x1.2.1).bind fun r15 =>
      (gd (x1.2.2.2.2.2.2.2.2.2.2.2.2.2.1.length + [reExpr r15].length)).bind fun _ =>
      some (.inl (x1.1, x1.2.1, x1.2.2.1, x1.2.2.2.1, x1.2.2.2.2.1, x1.2.2.2.2.2.1, x1.2.2.2.2.2.2.1, x1.2.2.2.2.2.2.2.1, x1.2.2.2.2.2.2.2.2.1, x1.2.2.2.2.2.2.2.2.2.1, x1.2.2.2.2.2.2.2.2.2.2.1, x1.2.2.2.2.2.2.2.2.2.2.2.1, x1.2.2.2.2.2.2.2.2.2.2.2.2.1, x1.2.2.2.2.2.2.2.2.2.2.2.2.2.1 ++ [reExpr r15], w64 (x1.2.2.2.2.2.2.2.2.2.2.2.2.2.2 + 1)))
    else
     some (.inr (GExpr.mk x1.2.2.2.2.2.2.2.2.2.2.1 x1.2.2.2.2.2.2.2.2.2.2.2.1 x1.2.2.2.2.2.2.2.2.2.2.2.2.1 x1.2.2.2.2.2.2.2.2.2.2.2.2.2.1))
   ) (b, c, a.kind, a.n, a.text, a.args, 0, 0, [], [], a.kind, a.n, c, [], 0)
  else
  loopD (fun (x16 : Str × Str × Int × Int × Str × (List GExpr) × Int × Int × Str × (List GExpr) × Int × Int × Str × (List GExpr) × Int) =>
   bif (decide (x16.2.2.2.2.2.2.2.2.2.2.2.2.2.2 < (x16.2.2.2.2.2.1.length : Int))) then
    bif (x16.2.2.1 == 7) then
     bif (x16.2.2.2.2.2.2.2.2.2.2.2.2.2.2 == 1) then
      bif (x16.2.2.2.2.1 == x16.1) then
       (idx x16.2.2.2.2.2.1 x16.2.2.2.2.2.2.2.2.2.2.2.2.2.2).bind fun e17 =>
       (sL10Copy (reExpr e17)).bind fun r18 =>
       (gd (x16.2.2.2.2.2.2.2.2.2.2.2.2.2.1.length + [reExpr r18].length)).bind fun _ =>
       some (.inl (x16.1, x16.2.1, x16.2.2.1, x16.2.2.2.1, x16.2.2.2.2.1, x16.2.2.2.2.2.1, x16.2.2.2.2.2.2.1, x16.2.2.2.2.2.2.2.1, x16.2.2.2.2.2.2.2.2.1, x16.2.2.2.2.2.2.2.2.2.1, x16.2.2.2.2.2.2.2.2.2.2.1, x16.2.2.2.2.2.2.2.2.2.2.2.1, x16.2.2.2.2.2.2.2.2.2.2.2.2.1, x16.2.2.2.2.2.2.2.2.2.2.2.2.2.1 ++ [reExpr r18], w64 (x16.2.2.2.2.2.2.2.2.2.2.2.2.2.2 + 1)))
      else
       (idx x16.2.2.2.2.2.1 x16.2.2.2.2.2.2.2.2.2.2.2.2.2.2).bind fun e19 =>
       (rsL13Rename (reExpr e19) x16.1 x16.2.1).bind fun r20 =>
       (gd (x16.2.2.2.2.2.2.2.2.2.2.2.2.2.1.length + [reExpr r20].length)).bind fun _ =>
       some (.inl (x16.1, x16.2.1, x16.2.2.1, x16.2.2.2.1, x16.2.2.2.2.1, x16.2.2.2.2.2.1, x16.2.2.2.2.2.2.1, x16.2.2.2.2.2.2.2.1, x16.2.2.2.2.2.2.2.2.1, x16.2.2.2.2.2.2.2.2.2.1, x16.2.2.2.2.2.2.2.2.2.2.1, x16.2.2.2.2.2.2.2.2.2.2.2.1, x16.2.2.2.2.2.2.2.2.2.2.2.2.1, x16.2.2.2.2.2.2.2.2.2.2.2.2.2.1 ++ [reExpr r20], w64 (x16.2.2.2.2.2.2.2.2.2.2.2.2.2.2 + 1)))
     else
      (idx x16.2.2.2.2.2.1 x16.2.2.2.2.2.2.2.2.2.2.2.2.2.2).bind fun e21 =>
      (rsL13Rename (reExpr e21) x16.1 x16.2.1).bind fun r22 =>
      (gd (x16.2.2.2.2.2.2.2.2.2.2.2.2.2.1.length + [reExpr r22].length)).bind fun _ =>
      some (.inl (x16.1, x16.2.1, x16.2.2.1, x16.2.2.2.1, x16.2.2.2.2.1, x16.2.2.2.2.2.1, x16.2.2.2.2.2.2.1, x16.2.2.2.2.2.2.2.1, x16.2.2.2.2.2.2.2.2.1, x16.2.2.2.2.2.2.2.2.2.1, x16.2.2.2.2.2.2.2.2.2.2.1, x16.2.2.2.2.2.2.2.2.2.2.2.1, x16.2.2.2.2.2.2.2.2.2.2.2.2.1, x16.2.2.2.2.2.2.2.2.2.2.2.2.2.1 ++ [reExpr r22], w64 (x16.2.2.2.2.2.2.2.2.2.2.2.2.2.2 + 1)))
    else
    bif (x16.2.2.1 == 9) then
     bif (x16.2.2.2.2.2.2.2.2.2.2.2.2.2.2 == 1) then
      bif (x16.2.2.2.2.1 == x16.1) then
       (idx x16.2.2.2.2.2.1 x16.2.2.2.2.2.2.2.2.2.2.2.2.2.2).bind fun e23 =>
       (sL10Copy (reExpr e23)).bind fun r24 =>
       (gd (x16.2.2.2.2.2.2.2.2.2.2.2.2.2.1.length + [reExpr r24].length)).bind fun _ =>
       some (.inl (x16.1, x16.2.1, x16.2.2.1, x16.2.2.2.1, x16.2.2.2.2.1, x16.2.2.2.2.2.1, x16.2.2.2.2.2.2.1, x16.2.2.2.2.2.2.2.1, x16.2.2.2.2.2.2.2.2.1, x16.2.2.2.2.2.2.2.2.2.1, x16.2.2.2.2.2.2.2.2.2.2.1, x16.2.2.2.2.2.2.2.2.2.2.2.1, x16.2.2.2.2.2.2.2.2.2.2.2.2.1, x16.2.2.2.2.2.2.2.2.2.2.2.2.2.1 ++ [reExpr r24], w64 (x16.2.2.2.2.2.2.2.2.2.2.2.2.2.2 + 1)))
      else
       (idx x16.2.2.2.2.2.1 x16.2.2.2.2.2.2.2.2.2.2.2.2.2.2).bind fun e25 =>
       (rsL13Rename (reExpr e25) x16.1 x16.2.1).bind fun r26 =>
       (gd (x16.2.2.2.2.2.2.2.2.2.2.2.2.2.1.length + [reExpr r26].length)).bind fun _ =>
       some (.inl (x16.1, x16.2.1, x16.2.2.1, x16.2.2.2.1, x16.2.2.2.2.1, x16.2.2.2.2.2.1, x16.2.2.2.2.2.2.1, x16.2.2.2.2.2.2.2.1, x16.2.2.2.2.2.2.2.2.1, x16.2.2.2.2.2.2.2.2.2.1, x16.2.2.2.2.2.2.2.2.2.2.1, x16.2.2.2.2.2.2.2.2.2.2.2.1, x16.2.2.2.2.2.2.2.2.2.2.2.2.1, x16.2.2.2.2.2.2.2.2.2.2.2.2.2.1 ++ [reExpr r26], w64 (x16.2.2.2.2.2.2.2.2.2.2.2.2.2.2 + 1)))
     else
      (idx x16.2.2.2.2.2.1 x16.2.2.2.2.2.2.2.2.2.2.2.2.2.2).bind fun e27 =>
      (rsL13Rename (reExpr e27) x16.1 x16.2.1).bind fun r28 =>
      (gd (x16.2.2.2.2.2.2.2.2.2.2.2.2.2.1.length + [reExpr r28].length)).bind fun _ =>
      some (.inl (x16.1, x16.2.1, x16.2.2.1, x16.2.2.2.1, x16.2.2.2.2.1, x16.2.2.2.2.2.1, x16.2.2.2.2.2.2.1, x16.2.2.2.2.2.2.2.1, x16.2.2.2.2.2.2.2.2.1, x16.2.2.2.2.2.2.2.2.2.1, x16.2.2.2.2.2.2.2.2.2.2.1, x16.2.2.2.2.2.2.2.2.2.2.2.1, x16.2.2.2.2.2.2.2.2.2.2.2.2.1, x16.2.2.2.2.2.2.2.2.2.2.2.2.2.1 ++ [reExpr r28], w64 (x16.2.2.2.2.2.2.2.2.2.2.2.2.2.2 + 1)))
    else
     (idx x16.2.2.2.2.2.1 x16.2.2.2.2.2.2.2.2.2.2.2.2.2.2).bind fun e29 =>
     (rsL13Rename (reExpr e29) x16.1 x16.2.1).bind fun r30 =>
     (gd (x16.2.2.2.2.2.2.2.2.2.2.2.2.2.1.length + [reExpr r30].length)).bind fun _ =>
     some (.inl (x16.1, x16.2.1, x16.2.2.1, x16.2.2.2.1, x16.2.2.2.2.1, x16.2.2.2.2.2.1, x16.2.2.2.2.2.2.1, x16.2.2.2.2.2.2.2.1, x16.2.2.2.2.2.2.2.2.1, x16.2.2.2.2.2.2.2.2.2.1, x16.2.2.2.2.2.2.2.2.2.2.1, x16.2.2.2.2.2.2.2.2.2.2.2.1, x16.2.2.2.2.2.2.2.2.2.2.2.2.1, x16.2.2.2.2.2.2.2.2.2.2.2.2.2.1 ++ [reExpr r30], w64 (x16.2.2.2.2.2.2.2.2.2.2.2.2.2.2 + 1)))
   else
    some (.inr (GExpr.mk x16.2.2.2.2.2.2.2.2.2.2.1 x16.2.2.2.2.2.2.2.2.2.2.2.1 x16.2.2.2.2.2.2.2.2.2.2.2.2.1 x16.2.2.2.2.2.2.2.2.2.2.2.2.2.1))
  ) (b, c, a.kind, a.n, a.text, a.args, 0, 0, [], [], a.kind, a.n, a.text, [], 0)
 else
 loopD (fun (x31 : Str × Str × Int × Int × Str × (List GExpr) × Int × Int × Str × (List GExpr) × Int × Int × Str × (List GExpr) × Int) =>
  bif (decide (x31.2.2.2.2.2.2.2.2.2.2.2.2.2.2 < (x31.2.2.2.2.2.1.length : Int))) then
   bif (x31.2.2.1 == 7) then
    bif (x31.2.2.2.2.2.2.2.2.2.2.2.2.2.2 == 1) then
     bif (x31.2.2.2.2.1 == x31.1) then
      (idx x31.2.2.2.2.2.1 x31.2.2.2.2.2.2.2.2.2.2.2.2.2.2).bind fun e32 =>
      (sL10Copy (reExpr e32)).bind fun r33 =>
      (gd (x31.2.2.2.2.2.2.2.2.2.2.2.2.2.1.length + [reExpr r33].length)).bind fun _ =>
      some (.inl (x31.1, x31.2.1, x31.2.2.1, x31.2.2.2.1, x31.2.2.2.2.1, x31.2.2.2.2.2.1, x31.2.2.2.2.2.2.1, x31.2.2.2.2.2.2.2.1, x31.2.2.2.2.2.2.2.2.1, x31.2.2.2.2.2.2.2.2.2.1, x31.2.2.2.2.2.2.2.2.2.2.1, x31.2.2.2.2.2.2.2.2.2.2.2.1, x31.2.2.2.2.2.2.2.2.2.2.2.2.1, x31.2.2.2.2.2.2.2.2.2.2.2.2.2.1 ++ [reExpr r33], w64 (x31.2.2.2.2.2.2.2.2.2.2.2.2.2.2 + 1)))
     else
      (idx x31.2.2.2.2.2.1 x31.2.2.2.2.2.2.2.2.2.2.2.2.2.2).bind fun e34 =>
      (rsL13Rename (reExpr e34) x31.1 x31.2.1).bind fun r35 =>
      (gd (x31.2.2.2.2.2.2.2.2.2.2.2.2.2.1.length + [reExpr r35].length)).bind fun _ =>
      some (.inl (x31.1, x31.2.1, x31.2.2.1, x31.2.2.2.1, x31.2.2.2.2.1, x31.2.2.2.2.2.1, x31.2.2.2.2.2.2.1, x31.2.2.2.2.2.2.2.1, x31.2.2.2.2.2.2.2.2.1, x31.2.2.2.2.2.2.2.2.2.1, x31.2.2.2.2.2.2.2.2.2.2.1, x31.2.2.2.2.2.2.2.2.2.2.2.1, x31.2.2.2.2.2.2.2.2.2.2.2.2.1, x31.2.2.2.2.2.2.2.2.2.2.2.2.2.1 ++ [reExpr r35], w64 (x31.2.2.2.2.2.2.2.2.2.2.2.2.2.2 + 1)))
    else
     (idx x31.2.2.2.2.2.1 x31.2.2.2.2.2.2.2.2.2.2.2.2.2.2).bind fun e36 =>
     (rsL13Rename (reExpr e36) x31.1 x31.2.1).bind fun r37 =>
     (gd (x31.2.2.2.2.2.2.2.2.2.2.2.2.2.1.length + [reExpr r37].length)).bind fun _ =>
     some (.inl (x31.1, x31.2.1, x31.2.2.1, x31.2.2.2.1, x31.2.2.2.2.1, x31.2.2.2.2.2.1, x31.2.2.2.2.2.2.1, x31.2.2.2.2.2.2.2.1, x31.2.2.2.2.2.2.2.2.1, x31.2.2.2.2.2.2.2.2.2.1, x31.2.2.2.2.2.2.2.2.2.2.1, x31.2.2.2.2.2.2.2.2.2.2.2.1, x31.2.2.2.2.2.2.2.2.2.2.2.2.1, x31.2.2.2.2.2.2.2.2.2.2.2.2.2.1 ++ [reExpr r37], w64 (x31.2.2.2.2.2.2.2.2.2.2.2.2.2.2 + 1)))
   else
   bif (x31.2.2.1 == 9) then
    bif (x31.2.2.2.2.2.2.2.2.2.2.2.2.2.2 == 1) then
     bif (x31.2.2.2.2.1 == x31.1) then
      (idx x31.2.2.2.2.2.1 x31.2.2.2.2.2.2.2.2.2.2.2.2.2.2).bind fun e38 =>
      (sL10Copy (reExpr e38)).bind fun r39 =>
      (gd (x31.2.2.2.2.2.2.2.2.2.2.2.2.2.1.length + [reExpr r39].length)).bind fun _ =>
      some (.inl (x31.1, x31.2.1, x31.2.2.1, x31.2.2.2.1, x31.2.2.2.2.1, x31.2.2.2.2.2.1, x31.2.2.2.2.2.2.1, x31.2.2.2.2.2.2.2.1, x31.2.2.2.2.2.2.2.2.1, x31.2.2.2.2.2.2.2.2.2.1, x31.2.2.2.2.2.2.2.2.2.2.1, x31.2.2.2.2.2.2.2.2.2.2.2.1, x31.2.2.2.2.2.2.2.2.2.2.2.2.1, x31.2.2.2.2.2.2.2.2.2.2.2.2.2.1 ++ [reExpr r39], w64 (x31.2.2.2.2.2.2.2.2.2.2.2.2.2.2 + 1)))
     else
      (idx x31.2.2.2.2.2.1 x31.2.2.2.2.2.2.2.2.2.2.2.2.2.2).bind fun e40 =>
      (rsL13Rename (reExpr e40) x31.1 x31.2.1).bind fun r41 =>
      (gd (x31.2.2.2.2.2.2.2.2.2.2.2.2.2.1.length + [reExpr r41].length)).bind fun _ =>
      some (.inl (x31.1, x31.2.1, x31.2.2.1, x31.2.2.2.1, x31.2.2.2.2.1, x31.2.2.2.2.2.1, x31.2.2.2.2.2.2.1, x31.2.2.2.2.2.2.2.1, x31.2.2.2.2.2.2.2.2.1, x31.2.2.2.2.2.2.2.2.2.1, x31.2.2.2.2.2.2.2.2.2.2.1, x31.2.2.2.2.2.2.2.2.2.2.2.1, x31.2.2.2.2.2.2.2.2.2.2.2.2.1, x31.2.2.2.2.2.2.2.2.2.2.2.2.2.1 ++ [reExpr r41], w64 (x31.2.2.2.2.2.2.2.2.2.2.2.2.2.2 + 1)))
    else
     (idx x31.2.2.2.2.2.1 x31.2.2.2.2.2.2.2.2.2.2.2.2.2.2).bind fun e42 =>
     (rsL13Rename (reExpr e42) x31.1 x31.2.1).bind fun r43 =>
     (gd (x31.2.2.2.2.2.2.2.2.2.2.2.2.2.1.length + [reExpr r43].length)).bind fun _ =>
     some (.inl (x31.1, x31.2.1, x31.2.2.1, x31.2.2.2.1, x31.2.2.2.2.1, x31.2.2.2.2.2.1, x31.2.2.2.2.2.2.1, x31.2.2.2.2.2.2.2.1, x31.2.2.2.2.2.2.2.2.1, x31.2.2.2.2.2.2.2.2.2.1, x31.2.2.2.2.2.2.2.2.2.2.1, x31.2.2.2.2.2.2.2.2.2.2.2.1, x31.2.2.2.2.2.2.2.2.2.2.2.2.1, x31.2.2.2.2.2.2.2.2.2.2.2.2.2.1 ++ [reExpr r43], w64 (x31.2.2.2.2.2.2.2.2.2.2.2.2.2.2 + 1)))
   else
    (idx x31.2.2.2.2.2.1 x31.2.2.2.2.2.2.2.2.2.2.2.2.2.2).bind fun e44 =>
    (rsL13Rename (reExpr e44) x31.1 x31.2.1).bind fun r45 =>
    (gd (x31.2.2.2.2.2.2.2.2.2.2.2.2.2.1.length + [reExpr r45].length)).bind fun _ =>
    some (.inl (x31.1, x31.2.1, x31.2.2.1, x31.2.2.2.1, x31.2.2.2.2.1, x31.2.2.2.2.2.1, x31.2.2.2.2.2.2.1, x31.2.2.2.2.2.2.2.1, x31.2.2.2.2.2.2.2.2.1, x31.2.2.2.2.2.2.2.2.2.1, x31.2.2.2.2.2.2.2.2.2.2.1, x31.2.2.2.2.2.2.2.2.2.2.2.1, x31.2.2.2.2.2.2.2.2.2.2.2.2.1, x31.2.2.2.2.2.2.2.2.2.2.2.2.2.1 ++ [reExpr r45], w64 (x31.2.2.2.2.2.2.2.2.2.2.2.2.2.2 + 1)))
  else
   some (.inr (GExpr.mk x31.2.2.2.2.2.2.2.2.2.2.1 x31.2.2.2.2.2.2.2.2.2.2.2.1 x31.2.2.2.2.2.2.2.2.2.2.2.2.1 x31.2.2.2.2.2.2.2.2.2.2.2.2.2.1))
 ) (b, c, a.kind, a.n, a.text, a.args, 0, 0, [], [], a.kind, a.n, a.text, [], 0)
noncomputable def sL13RenameG : Nat → (GExpr → Str → Str → Option (GExpr))
 | 0 => fun _ _ _ => none
 | n + 1 => sL13RenameB (sL13RenameG n)
noncomputable def sL13Rename (a : GExpr) (b : Str) (c : Str) : Option (GExpr) := (sL13RenameG (siz a + 1)) a b c
noncomputable def sL13RenameFS : Fsp := { fid := 45, ps := [⟨true, .base .expr⟩, ⟨false, .base .str⟩, ⟨false, .base .str⟩], rs := [⟨true, .base .expr⟩], ex := true, fn := fun x => sL13Rename x.1 x.2.1 x.2.2 }
noncomputable def sL13RenameFSN (n : Nat) : Fsp := { fid := 45, ps := [⟨true, .base .expr⟩, ⟨false, .base .str⟩, ⟨false, .base .str⟩], rs := [⟨true, .base .expr⟩], ex := true, fn := fun x => (sL13RenameG n) x.1 x.2.1 x.2.2 }
noncomputable def sRenameFree (a : GExpr) (b : Str) (c : Str) : Option (GExpr × Bool) :=
 (sIsValidExpr (reExpr a)).bind fun r1 =>
 bif (!r1) then
  some (GExpr.mk 0 0 [] [], false)
 else
 (sIsValidName b).bind fun r2 =>
 bif (!r2) then
  some (GExpr.mk 0 0 [] [], false)
 else
 (sIsValidName c).bind fun r3 =>
 bif (!r3) then
  some (GExpr.mk 0 0 [] [], false)
 else
  (sIsCaptured (reExpr a) b c).bind fun r4 =>
  bif r4 then
   some (GExpr.mk 0 0 [] [], false)
  else
   (sL13Rename (reExpr a) b c).bind fun r5 =>
   some (reExpr r5, true)
noncomputable def sRenameFreeFS : Fsp := { fid := 25, ps := [⟨true, .base .expr⟩, ⟨false, .base .str⟩, ⟨false, .base .str⟩], rs := [⟨true, .base .expr⟩, ⟨false, .base .bool⟩], ex := true, fn := fun x => sRenameFree x.1 x.2.1 x.2.2 }
noncomputable def sJoin (a : List Str) (b : Str) : Option (Str) :=
 loopD (fun (x1 : (List Str) × Str × (List Int) × Int) =>
  bif (decide (x1.2.2.2 < (x1.1.length : Int))) then
   bif (decide (x1.2.2.2 > 0)) then
    (gd (x1.2.2.1.length + (octs x1.2.1).length)).bind fun _ =>
    (idx x1.1 x1.2.2.2).bind fun e2 =>
    (gd ((x1.2.2.1 ++ (octs x1.2.1)).length + (octs e2).length)).bind fun _ =>
    some (.inl (x1.1, x1.2.1, (x1.2.2.1 ++ (octs x1.2.1)) ++ (octs e2), w64 (x1.2.2.2 + 1)))
   else
    (idx x1.1 x1.2.2.2).bind fun e3 =>
    (gd (x1.2.2.1.length + (octs e3).length)).bind fun _ =>
    some (.inl (x1.1, x1.2.1, x1.2.2.1 ++ (octs e3), w64 (x1.2.2.2 + 1)))
  else
   some (.inr (bytesOf x1.2.2.1))
 ) (a, b, [], 0)
noncomputable def sJoinFS : Fsp := { fid := 114, ps := [⟨false, .list (.base .str)⟩, ⟨false, .base .str⟩], rs := [⟨false, .base .str⟩], ex := true, fn := fun x => sJoin x.1 x.2 }
noncomputable def sLevelOf (a : GExpr) : Option (Int) :=
 bif (a.kind == 7) then
  some (0)
 else
 bif (a.kind == 8) then
  some (0)
 else
 bif (a.kind == 9) then
  some (0)
 else
 bif (a.kind == 6) then
  bif (a.n == 4) then
   some (1)
  else
  bif (a.n == 5) then
   some (1)
  else
   bif (a.n == 1) then
    some (2)
   else
    bif (a.n == 2) then
     some (2)
    else
     bif (a.n == 3) then
      some (3)
     else
      some (4)
 else
  some (4)
noncomputable def sLevelOfFS : Fsp := { fid := 74, ps := [⟨true, .base .expr⟩], rs := [⟨false, .base .int⟩], ex := true, fn := fun x => sLevelOf x }
noncomputable def sOpSymbol (a : Int) : Option (Str) :=
 (sL1In a 1 5).bind fun r1 =>
 bif (!r1) then
  some ([63])
 else
  (idx ([[], [43], [45], [42], [60], [61, 61]] : List Str) a).bind fun _ =>
  (([[], [43], [45], [42], [60], [61, 61]] : List Str)[a.toNat]?).bind fun e3 =>
  some (e3)
noncomputable def sOpSymbolFS : Fsp := { fid := 76, ps := [⟨false, .base .int⟩], rs := [⟨false, .base .str⟩], ex := true, fn := fun x => sOpSymbol x }
noncomputable def sL12TextB (rsL12Text : GExpr → Option (Str)) (rsL12List : (List GExpr) → Option (Str)) (rsL12At : GExpr → Int → Option (Str)) (a : GExpr) : Option (Str) :=
 bif (a.kind == 1) then
  (sFormatInt a.n).bind fun r1 =>
  some (r1)
 else
 bif (a.kind == 2) then
  (gd ([34].length + a.text.length)).bind fun _ =>
  (gd (([34] ++ a.text).length + [34].length)).bind fun _ =>
  some (([34] ++ a.text) ++ [34])
 else
 bif (a.kind == 3) then
  some (a.text)
 else
 bif (a.kind == 4) then
  (rsL12List a.args).bind fun r2 =>
  (gd ([91].length + r2.length)).bind fun _ =>
  (gd (([91] ++ r2).length + [93].length)).bind fun _ =>
  some (([91] ++ r2) ++ [93])
 else
 bif (a.kind == 5) then
  (gd (a.text.length + [40].length)).bind fun _ =>
  (rsL12List a.args).bind fun r3 =>
  (gd ((a.text ++ [40]).length + r3.length)).bind fun _ =>
  (gd (((a.text ++ [40]) ++ r3).length + [41].length)).bind fun _ =>
  some (((a.text ++ [40]) ++ r3) ++ [41])
 else
 bif (a.kind == 7) then
  (gd ([108, 101, 116, 32].length + a.text.length)).bind fun _ =>
  (gd (([108, 101, 116, 32] ++ a.text).length + [32, 61, 32].length)).bind fun _ =>
  (idx a.args 0).bind fun e4 =>
  (rsL12Text (reExpr e4)).bind fun r5 =>
  (gd ((([108, 101, 116, 32] ++ a.text) ++ [32, 61, 32]).length + r5.length)).bind fun _ =>
  (gd (((([108, 101, 116, 32] ++ a.text) ++ [32, 61, 32]) ++ r5).length + [32, 105, 110, 32].length)).bind fun _ =>
  (idx a.args 1).bind fun e6 =>
  (rsL12Text (reExpr e6)).bind fun r7 =>
  (gd ((((([108, 101, 116, 32] ++ a.text) ++ [32, 61, 32]) ++ r5) ++ [32, 105, 110, 32]).length + r7.length)).bind fun _ =>
  some ((((([108, 101, 116, 32] ++ a.text) ++ [32, 61, 32]) ++ r5) ++ [32, 105, 110, 32]) ++ r7)
 else
 bif (a.kind == 9) then
  (gd ([102, 111, 114, 32].length + a.text.length)).bind fun _ =>
  (gd (([102, 111, 114, 32] ++ a.text).length + [32, 105, 110, 32].length)).bind fun _ =>
  (idx a.args 0).bind fun e8 =>
  (rsL12Text (reExpr e8)).bind fun r9 =>
  (gd ((([102, 111, 114, 32] ++ a.text) ++ [32, 105, 110, 32]).length + r9.length)).bind fun _ =>
  (gd (((([102, 111, 114, 32] ++ a.text) ++ [32, 105, 110, 32]) ++ r9).length + [32, 100, 111, 32].length)).bind fun _ =>
  (idx a.args 1).bind fun e10 =>
  (rsL12Text (reExpr e10)).bind fun r11 =>
  (gd ((((([102, 111, 114, 32] ++ a.text) ++ [32, 105, 110, 32]) ++ r9) ++ [32, 100, 111, 32]).length + r11.length)).bind fun _ =>
  some ((((([102, 111, 114, 32] ++ a.text) ++ [32, 105, 110, 32]) ++ r9) ++ [32, 100, 111, 32]) ++ r11)
 else
 bif (a.kind == 8) then
  (idx a.args 0).bind fun e12 =>
  (rsL12Text (reExpr e12)).bind fun r13 =>
  (gd ([105, 102, 32].length + r13.length)).bind fun _ =>
  (gd (([105, 102, 32] ++ r13).length + [32, 116, 104, 101, 110, 32].length)).bind fun _ =>
  (idx a.args 1).bind fun e14 =>
  (rsL12Text (reExpr e14)).bind fun r15 =>
  (gd ((([105, 102, 32] ++ r13) ++ [32, 116, 104, 101, 110, 32]).length + r15.length)).bind fun _ =>
  (gd (((([105, 102, 32] ++ r13) ++ [32, 116, 104, 101, 110, 32]) ++ r15).length + [32, 101, 108, 115, 101, 32].length)).bind fun _ =>
  (idx a.args 2).bind fun e16 =>
  (rsL12Text (reExpr e16)).bind fun r17 =>
  (gd ((((([105, 102, 32] ++ r13) ++ [32, 116, 104, 101, 110, 32]) ++ r15) ++ [32, 101, 108, 115, 101, 32]).length + r17.length)).bind fun _ =>
  some ((((([105, 102, 32] ++ r13) ++ [32, 116, 104, 101, 110, 32]) ++ r15) ++ [32, 101, 108, 115, 101, 32]) ++ r17)
 else
 (sLevelOf (reExpr a)).bind fun r18 =>
 bif (r18 == 1) then
  (idx a.args 0).bind fun e19 =>
  (rsL12At (reExpr e19) 2).bind fun r20 =>
  (gd (r20.length + [32].length)).bind fun _ =>
  (sOpSymbol a.n).bind fun r21 =>
  (gd ((r20 ++ [32]).length + r21.length)).bind fun _ =>
  (gd (((r20 ++ [32]) ++ r21).length + [32].length)).bind fun _ =>
  (idx a.args 1).bind fun e22 =>
  (rsL12At (reExpr e22) (w64 (r18 + 1))).bind fun r23 =>
  (gd ((((r20 ++ [32]) ++ r21) ++ [32]).length + r23.length)).bind fun _ =>
  some ((((r20 ++ [32]) ++ r21) ++ [32]) ++ r23)
 else
 (idx a.args 0).bind fun e24 =>
 (rsL12At (reExpr e24) r18).bind fun r25 =>
 (gd (r25.length + [32].length)).bind fun _ =>
 (sOpSymbol a.n).bind fun r26 =>
 (gd ((r25 ++ [32]).length + r26.length)).bind fun _ =>
 (gd (((r25 ++ [32]) ++ r26).length + [32].length)).bind fun _ =>
 (idx a.args 1).bind fun e27 =>
 (rsL12At (reExpr e27) (w64 (r18 + 1))).bind fun r28 =>
 (gd ((((r25 ++ [32]) ++ r26) ++ [32]).length + r28.length)).bind fun _ =>
 some ((((r25 ++ [32]) ++ r26) ++ [32]) ++ r28)
noncomputable def sL12ListB (rsL12Text : GExpr → Option (Str)) (rsL12List : (List GExpr) → Option (Str)) (rsL12At : GExpr → Int → Option (Str)) (a : List GExpr) : Option (Str) :=
 loopD (fun (x1 : (List GExpr) × (List Str) × Int) =>
  bif (decide (x1.2.2 < (x1.1.length : Int))) then
   (idx x1.1 x1.2.2).bind fun e2 =>
   (rsL12Text (reExpr e2)).bind fun r3 =>
   (gd (x1.2.1.length + ([r3] : List Str).length)).bind fun _ =>
   some (.inl (x1.1, x1.2.1 ++ ([r3] : List Str), w64 (x1.2.2 + 1)))
  else
   (
    (sJoin x1.2.1 [44, 32]).bind fun r4 =>
    some (r4)
   ).bind fun r => some (.inr r)
 ) (a, [], 0)
noncomputable def sL12AtB (rsL12Text : GExpr → Option (Str)) (rsL12List : (List GExpr) → Option (Str)) (rsL12At : GExpr → Int → Option (Str)) (a : GExpr) (b : Int) : Option (Str) :=
 (rsL12Text (reExpr a)).bind fun r1 =>
 (sLevelOf (reExpr a)).bind fun r2 =>
 bif (decide (r2 < b)) then
  (gd ([40].length + r1.length)).bind fun _ =>
  (gd (([40] ++ r1).length + [41].length)).bind fun _ =>
  some (([40] ++ r1) ++ [41])
 else
  some (r1)
noncomputable def sL12TextG : Nat → (GExpr → Option (Str)) × ((List GExpr) → Option (Str)) × (GExpr → Int → Option (Str))
 | 0 => (fun _ => none, fun _ => none, fun _ _ => none)
 | n + 1 => (sL12TextB (sL12TextG n).1 (sL12TextG n).2.1 (sL12TextG n).2.2, sL12ListB (sL12TextG n).1 (sL12TextG n).2.1 (sL12TextG n).2.2, sL12AtB (sL12TextG n).1 (sL12TextG n).2.1 (sL12TextG n).2.2)
noncomputable def sL12Text (a : GExpr) : Option (Str) := (sL12TextG (siz a + 1)).1 a
noncomputable def sL12TextFS : Fsp := { fid := 46, ps := [⟨true, .base .expr⟩], rs := [⟨false, .base .str⟩], ex := true, fn := fun x => sL12Text x }
noncomputable def sL12TextFSN (n : Nat) : Fsp := { fid := 46, ps := [⟨true, .base .expr⟩], rs := [⟨false, .base .str⟩], ex := true, fn := fun x => (sL12TextG n).1 x }
noncomputable def sL12List (a : List GExpr) : Option (Str) := (sL12TextG (siz a + 1)).2.1 a
noncomputable def sL12ListFS : Fsp := { fid := 73, ps := [⟨false, .list (.base .expr)⟩], rs := [⟨false, .base .str⟩], ex := true, fn := fun x => sL12List x }
noncomputable def sL12ListFSN (n : Nat) : Fsp := { fid := 73, ps := [⟨false, .list (.base .expr)⟩], rs := [⟨false, .base .str⟩], ex := true, fn := fun x => (sL12TextG n).2.1 x }
noncomputable def sL12At (a : GExpr) (b : Int) : Option (Str) := (sL12TextG (siz a + 1)).2.2 a b
noncomputable def sL12AtFS : Fsp := { fid := 75, ps := [⟨true, .base .expr⟩, ⟨false, .base .int⟩], rs := [⟨false, .base .str⟩], ex := true, fn := fun x => sL12At x.1 x.2 }
noncomputable def sL12AtFSN (n : Nat) : Fsp := { fid := 75, ps := [⟨true, .base .expr⟩, ⟨false, .base .int⟩], rs := [⟨false, .base .str⟩], ex := true, fn := fun x => (sL12TextG n).2.2 x.1 x.2 }
noncomputable def sFormatExpr (a : GExpr) : Option (Str) :=
 (sIsValidExpr (reExpr a)).bind fun r1 =>
 bif (!r1) then
  some ([])
 else
  (sL12Text (reExpr a)).bind fun r2 =>
  some (r2)
noncomputable def sFormatExprFS : Fsp := { fid := 26, ps := [⟨true, .base .expr⟩], rs := [⟨false, .base .str⟩], ex := true, fn := fun x => sFormatExpr x }
noncomputable def sL42Code (a : Str) (b : Str) (c : Str) : Option (Str) :=
 (sParseExpr a).bind fun r1 =>
 bif (decide (r1.2 ≥ 0)) then
  some (a)
 else
 (sFreeNames (reExpr r1.1)).bind fun r2 =>
 (sL1Has r2 b).bind fun r3 =>
 bif (!r3) then
  some (a)
 else
  (sRenameFree (reExpr r1.1) b c).bind fun r4 =>
  (sFormatExpr (reExpr r4.1)).bind fun r5 =>
  bif (!r4.2) then
   some (a)
  else
   bif (decide ((r5.length : Int) > 120)) then
    some (a)
   else
    some (r5)
noncomputable def sL42CodeFS : Fsp := { fid := 14, ps := [⟨false, .base .str⟩, ⟨false, .base .str⟩, ⟨false, .base .str⟩], rs := [⟨false, .base .str⟩], ex := true, fn := fun x => sL42Code x.1 x.2.1 x.2.2 }
noncomputable def sAdaptEdit (a : GEdit) (b : List GOp) : Option (GEdit) :=
 loopD (fun (x1 : (List GOp) × Int × Int × Int × Int × Int × Str × Str × Int × Int × Int × Int × Int × Int × Str × Str × Int × Int) =>
  bif (decide (x1.2.2.2.2.2.2.2.2.2.2.2.2.2.2.2.2.2 < (x1.1.length : Int))) then
   (idx x1.1 x1.2.2.2.2.2.2.2.2.2.2.2.2.2.2.2.2.2).bind fun e2 =>
   bif (x1.2.2.2.2.2.2.1 == e2.src) then
    bif (x1.2.1 == 4) then
     (sL42Code x1.2.2.2.2.2.2.2.1 e2.src e2.dst).bind fun r3 =>
     some (.inl (x1.1, x1.2.1, x1.2.2.1, x1.2.2.2.1, x1.2.2.2.2.1, x1.2.2.2.2.2.1, e2.dst, r3, x1.2.2.2.2.2.2.2.2.1, x1.2.2.2.2.2.2.2.2.2.1, x1.2.2.2.2.2.2.2.2.2.2.1, x1.2.2.2.2.2.2.2.2.2.2.2.1, x1.2.2.2.2.2.2.2.2.2.2.2.2.1, x1.2.2.2.2.2.2.2.2.2.2.2.2.2.1, x1.2.2.2.2.2.2.2.2.2.2.2.2.2.2.1, x1.2.2.2.2.2.2.2.2.2.2.2.2.2.2.2.1, x1.2.2.2.2.2.2.2.2.2.2.2.2.2.2.2.2.1, w64 (x1.2.2.2.2.2.2.2.2.2.2.2.2.2.2.2.2.2 + 1)))
    else
     bif (x1.2.1 == 1) then
      bif (x1.2.2.2.2.2.1 == 2) then
       (sL42Code x1.2.2.2.2.2.2.2.1 e2.src e2.dst).bind fun r4 =>
       some (.inl (x1.1, x1.2.1, x1.2.2.1, x1.2.2.2.1, x1.2.2.2.2.1, x1.2.2.2.2.2.1, e2.dst, r4, x1.2.2.2.2.2.2.2.2.1, x1.2.2.2.2.2.2.2.2.2.1, x1.2.2.2.2.2.2.2.2.2.2.1, x1.2.2.2.2.2.2.2.2.2.2.2.1, x1.2.2.2.2.2.2.2.2.2.2.2.2.1, x1.2.2.2.2.2.2.2.2.2.2.2.2.2.1, x1.2.2.2.2.2.2.2.2.2.2.2.2.2.2.1, x1.2.2.2.2.2.2.2.2.2.2.2.2.2.2.2.1, x1.2.2.2.2.2.2.2.2.2.2.2.2.2.2.2.2.1, w64 (x1.2.2.2.2.2.2.2.2.2.2.2.2.2.2.2.2.2 + 1)))
      else
       some (.inl (x1.1, x1.2.1, x1.2.2.1, x1.2.2.2.1, x1.2.2.2.2.1, x1.2.2.2.2.2.1, e2.dst, x1.2.2.2.2.2.2.2.1, x1.2.2.2.2.2.2.2.2.1, x1.2.2.2.2.2.2.2.2.2.1, x1.2.2.2.2.2.2.2.2.2.2.1, x1.2.2.2.2.2.2.2.2.2.2.2.1, x1.2.2.2.2.2.2.2.2.2.2.2.2.1, x1.2.2.2.2.2.2.2.2.2.2.2.2.2.1, x1.2.2.2.2.2.2.2.2.2.2.2.2.2.2.1, x1.2.2.2.2.2.2.2.2.2.2.2.2.2.2.2.1, x1.2.2.2.2.2.2.2.2.2.2.2.2.2.2.2.2.1, w64 (x1.2.2.2.2.2.2.2.2.2.2.2.2.2.2.2.2.2 + 1)))
     else
      some (.inl (x1.1, x1.2.1, x1.2.2.1, x1.2.2.2.1, x1.2.2.2.2.1, x1.2.2.2.2.2.1, e2.dst, x1.2.2.2.2.2.2.2.1, x1.2.2.2.2.2.2.2.2.1, x1.2.2.2.2.2.2.2.2.2.1, x1.2.2.2.2.2.2.2.2.2.2.1, x1.2.2.2.2.2.2.2.2.2.2.2.1, x1.2.2.2.2.2.2.2.2.2.2.2.2.1, x1.2.2.2.2.2.2.2.2.2.2.2.2.2.1, x1.2.2.2.2.2.2.2.2.2.2.2.2.2.2.1, x1.2.2.2.2.2.2.2.2.2.2.2.2.2.2.2.1, x1.2.2.2.2.2.2.2.2.2.2.2.2.2.2.2.2.1, w64 (x1.2.2.2.2.2.2.2.2.2.2.2.2.2.2.2.2.2 + 1)))
   else
   bif (x1.2.1 == 4) then
    (sL42Code x1.2.2.2.2.2.2.2.1 e2.src e2.dst).bind fun r5 =>
    some (.inl (x1.1, x1.2.1, x1.2.2.1, x1.2.2.2.1, x1.2.2.2.2.1, x1.2.2.2.2.2.1, x1.2.2.2.2.2.2.1, r5, x1.2.2.2.2.2.2.2.2.1, x1.2.2.2.2.2.2.2.2.2.1, x1.2.2.2.2.2.2.2.2.2.2.1, x1.2.2.2.2.2.2.2.2.2.2.2.1, x1.2.2.2.2.2.2.2.2.2.2.2.2.1, x1.2.2.2.2.2.2.2.2.2.2.2.2.2.1, x1.2.2.2.2.2.2.2.2.2.2.2.2.2.2.1, x1.2.2.2.2.2.2.2.2.2.2.2.2.2.2.2.1, x1.2.2.2.2.2.2.2.2.2.2.2.2.2.2.2.2.1, w64 (x1.2.2.2.2.2.2.2.2.2.2.2.2.2.2.2.2.2 + 1)))
   else
    bif (x1.2.1 == 1) then
     bif (x1.2.2.2.2.2.1 == 2) then
      (sL42Code x1.2.2.2.2.2.2.2.1 e2.src e2.dst).bind fun r6 =>
      some (.inl (x1.1, x1.2.1, x1.2.2.1, x1.2.2.2.1, x1.2.2.2.2.1, x1.2.2.2.2.2.1, x1.2.2.2.2.2.2.1, r6, x1.2.2.2.2.2.2.2.2.1, x1.2.2.2.2.2.2.2.2.2.1, x1.2.2.2.2.2.2.2.2.2.2.1, x1.2.2.2.2.2.2.2.2.2.2.2.1, x1.2.2.2.2.2.2.2.2.2.2.2.2.1, x1.2.2.2.2.2.2.2.2.2.2.2.2.2.1, x1.2.2.2.2.2.2.2.2.2.2.2.2.2.2.1, x1.2.2.2.2.2.2.2.2.2.2.2.2.2.2.2.1, x1.2.2.2.2.2.2.2.2.2.2.2.2.2.2.2.2.1, w64 (x1.2.2.2.2.2.2.2.2.2.2.2.2.2.2.2.2.2 + 1)))
     else
      some (.inl (x1.1, x1.2.1, x1.2.2.1, x1.2.2.2.1, x1.2.2.2.2.1, x1.2.2.2.2.2.1, x1.2.2.2.2.2.2.1, x1.2.2.2.2.2.2.2.1, x1.2.2.2.2.2.2.2.2.1, x1.2.2.2.2.2.2.2.2.2.1, x1.2.2.2.2.2.2.2.2.2.2.1, x1.2.2.2.2.2.2.2.2.2.2.2.1, x1.2.2.2.2.2.2.2.2.2.2.2.2.1, x1.2.2.2.2.2.2.2.2.2.2.2.2.2.1, x1.2.2.2.2.2.2.2.2.2.2.2.2.2.2.1, x1.2.2.2.2.2.2.2.2.2.2.2.2.2.2.2.1, x1.2.2.2.2.2.2.2.2.2.2.2.2.2.2.2.2.1, w64 (x1.2.2.2.2.2.2.2.2.2.2.2.2.2.2.2.2.2 + 1)))
    else
     some (.inl (x1.1, x1.2.1, x1.2.2.1, x1.2.2.2.1, x1.2.2.2.2.1, x1.2.2.2.2.2.1, x1.2.2.2.2.2.2.1, x1.2.2.2.2.2.2.2.1, x1.2.2.2.2.2.2.2.2.1, x1.2.2.2.2.2.2.2.2.2.1, x1.2.2.2.2.2.2.2.2.2.2.1, x1.2.2.2.2.2.2.2.2.2.2.2.1, x1.2.2.2.2.2.2.2.2.2.2.2.2.1, x1.2.2.2.2.2.2.2.2.2.2.2.2.2.1, x1.2.2.2.2.2.2.2.2.2.2.2.2.2.2.1, x1.2.2.2.2.2.2.2.2.2.2.2.2.2.2.2.1, x1.2.2.2.2.2.2.2.2.2.2.2.2.2.2.2.2.1, w64 (x1.2.2.2.2.2.2.2.2.2.2.2.2.2.2.2.2.2 + 1)))
  else
   some (.inr (GEdit.mk x1.2.1 x1.2.2.1 (GCell.mk x1.2.2.2.1 x1.2.2.2.2.1 x1.2.2.2.2.2.1 x1.2.2.2.2.2.2.1 x1.2.2.2.2.2.2.2.1 x1.2.2.2.2.2.2.2.2.1)))
 ) (b, a.kind, a.pos, a.cell.id, a.cell.version, a.cell.kind, a.cell.name, a.cell.code, a.cell.n, 0, 0, 0, 0, 0, [], [], 0, 0)
noncomputable def sAdaptEditFS : Fsp := { fid := 6, ps := [⟨true, .base .edit⟩, ⟨false, .list (.base .op)⟩], rs := [⟨true, .base .edit⟩], ex := true, fn := fun x => sAdaptEdit x.1 x.2 }
noncomputable def toCell (a : GCell) : Option (GCell) :=
 some (a)
noncomputable def toCellFS : Fsp := { fid := 15, ps := [⟨true, .base .cell⟩], rs := [⟨true, .base .cell⟩], ex := true, fn := fun x => toCell x }
noncomputable def toEdit (a : GEdit) : Option (GEdit) :=
 (toCell a.cell).bind fun r1 =>
 some (GEdit.mk a.kind a.pos r1)
noncomputable def toEditFS : Fsp := { fid := 7, ps := [⟨true, .base .edit⟩], rs := [⟨true, .base .edit⟩], ex := true, fn := fun x => toEdit x }
noncomputable def toIntS (a : List Int) : Option ((List Int)) :=
 (mk (a.length : Int)).bind fun m1 =>
 loopD (fun (x2 : (List Int) × (List Int) × Int) =>
  bif (decide (x2.2.2 < (x2.1.length : Int))) then
   (idx x2.1 x2.2.2).bind fun e3 =>
   (idx x2.2.1 x2.2.2).bind fun _ =>
   (x2.2.1[x2.2.2.toNat]?).bind fun e5 =>
   some (.inl (x2.1, x2.2.1.set x2.2.2.toNat e3, w64 (x2.2.2 + 1)))
  else
   some (.inr (x2.2.1))
 ) (a, List.replicate m1 0, 0)
noncomputable def toIntSFS : Fsp := { fid := 27, ps := [⟨false, .list (.base .int)⟩], rs := [⟨false, .list (.base .int)⟩], ex := true, fn := fun x => toIntS x }
noncomputable def toStringS (a : List Str) : Option ((List Str)) :=
 (mk (a.length : Int)).bind fun m1 =>
 loopD (fun (x2 : (List Str) × (List Str) × Int) =>
  bif (decide (x2.2.2 < (x2.1.length : Int))) then
   (idx x2.1 x2.2.2).bind fun e3 =>
   (idx x2.2.1 x2.2.2).bind fun _ =>
   (x2.2.1[x2.2.2.toNat]?).bind fun e5 =>
   some (.inl (x2.1, x2.2.1.set x2.2.2.toNat e3, w64 (x2.2.2 + 1)))
  else
   some (.inr (x2.2.1))
 ) (a, List.replicate m1 [], 0)
noncomputable def toStringSFS : Fsp := { fid := 117, ps := [⟨false, .list (.base .str)⟩], rs := [⟨false, .list (.base .str)⟩], ex := true, fn := fun x => toStringS x }
noncomputable def toOrigin (a : GOrigin) : Option (GOrigin) :=
 some (a)
noncomputable def toOriginFS : Fsp := { fid := 175, ps := [⟨true, .base .origin⟩], rs := [⟨true, .base .origin⟩], ex := true, fn := fun x => toOrigin x }
noncomputable def toOriginS (a : List GOrigin) : Option ((List GOrigin)) :=
 (mk (a.length : Int)).bind fun m1 =>
 loopD (fun (x2 : (List GOrigin) × (List GOrigin) × Int) =>
  bif (decide (x2.2.2 < (x2.1.length : Int))) then
   (idx x2.1 x2.2.2).bind fun e3 =>
   (toOrigin e3).bind fun r4 =>
   (idx x2.2.1 x2.2.2).bind fun _ =>
   (x2.2.1[x2.2.2.toNat]?).bind fun e6 =>
   some (.inl (x2.1, x2.2.1.set x2.2.2.toNat r4, w64 (x2.2.2 + 1)))
  else
   some (.inr (x2.2.1))
 ) (a, List.replicate m1 (GOrigin.mk 0 0), 0)
noncomputable def toOriginSFS : Fsp := { fid := 151, ps := [⟨false, .list (.base .origin)⟩], rs := [⟨false, .list (.base .origin)⟩], ex := true, fn := fun x => toOriginS x }
noncomputable def toRow (a : GRow) : Option (GRow) :=
 (toIntS a.cells).bind fun r1 =>
 (toOriginS a.orig).bind fun r2 =>
 some (GRow.mk r1 r2)
noncomputable def toRowFS : Fsp := { fid := 139, ps := [⟨true, .base .row⟩], rs := [⟨true, .base .row⟩], ex := true, fn := fun x => toRow x }
noncomputable def toRowS (a : List GRow) : Option ((List GRow)) :=
 (mk (a.length : Int)).bind fun m1 =>
 loopD (fun (x2 : (List GRow) × (List GRow) × Int) =>
  bif (decide (x2.2.2 < (x2.1.length : Int))) then
   (idx x2.1 x2.2.2).bind fun e3 =>
   (toRow e3).bind fun r4 =>
   (idx x2.2.1 x2.2.2).bind fun _ =>
   (x2.2.1[x2.2.2.toNat]?).bind fun e6 =>
   some (.inl (x2.1, x2.2.1.set x2.2.2.toNat r4, w64 (x2.2.2 + 1)))
  else
   some (.inr (x2.2.1))
 ) (a, List.replicate m1 (GRow.mk [] []), 0)
noncomputable def toRowSFS : Fsp := { fid := 118, ps := [⟨false, .list (.base .row)⟩], rs := [⟨false, .list (.base .row)⟩], ex := true, fn := fun x => toRowS x }
noncomputable def toValueB (rtoValue : GVal → Option (GVal)) (rtoValueS : (List GVal) → Option ((List GVal))) (a : GVal) : Option (GVal) :=
 (rtoValueS a.list).bind fun r1 =>
 (toStringS a.columns).bind fun r2 =>
 (toRowS a.rows).bind fun r3 =>
 some (GVal.mk a.kind a.n a.step a.text r1 r2 r3)
noncomputable def toValueSB (rtoValue : GVal → Option (GVal)) (rtoValueS : (List GVal) → Option ((List GVal))) (a : List GVal) : Option ((List GVal)) :=
 (mk (a.length : Int)).bind fun m1 =>
 loopD (fun (x2 : (List GVal) × (List GVal) × Int) =>
  bif (decide (x2.2.2 < (x2.1.length : Int))) then
   (idx x2.1 x2.2.2).bind fun e3 =>
   (rtoValue (reVal e3)).bind fun r4 =>
   (idx x2.2.1 x2.2.2).bind fun _ =>
   (x2.2.1[x2.2.2.toNat]?).bind fun e6 =>
   some (.inl (x2.1, x2.2.1.set x2.2.2.toNat (reVal r4), w64 (x2.2.2 + 1)))
  else
   some (.inr (x2.2.1))
 ) (a, List.replicate m1 (GVal.mk 0 0 0 [] [] [] []), 0)
noncomputable def toValueG : Nat → (GVal → Option (GVal)) × ((List GVal) → Option ((List GVal)))
 | 0 => (fun _ => none, fun _ => none)
 | n + 1 => (toValueB (toValueG n).1 (toValueG n).2, toValueSB (toValueG n).1 (toValueG n).2)
noncomputable def toValue (a : GVal) : Option (GVal) := (toValueG (siz a + 1)).1 a
noncomputable def toValueFS : Fsp := { fid := 77, ps := [⟨true, .base .val⟩], rs := [⟨true, .base .val⟩], ex := true, fn := fun x => toValue x }
noncomputable def toValueFSN (n : Nat) : Fsp := { fid := 77, ps := [⟨true, .base .val⟩], rs := [⟨true, .base .val⟩], ex := true, fn := fun x => (toValueG n).1 x }
noncomputable def toValueS (a : List GVal) : Option ((List GVal)) := (toValueG (siz a + 1)).2 a
noncomputable def toValueSFS : Fsp := { fid := 116, ps := [⟨false, .list (.base .val)⟩], rs := [⟨false, .list (.base .val)⟩], ex := true, fn := fun x => toValueS x }
noncomputable def toValueSFSN (n : Nat) : Fsp := { fid := 116, ps := [⟨false, .list (.base .val)⟩], rs := [⟨false, .list (.base .val)⟩], ex := true, fn := fun x => (toValueG n).2 x }
noncomputable def toRead (a : GRead) : Option (GRead) :=
 (toValue (reVal a.result)).bind fun r1 =>
 some (GRead.mk a.kind a.n a.time a.text (reVal r1))
noncomputable def toReadFS : Fsp := { fid := 47, ps := [⟨true, .base .read⟩], rs := [⟨true, .base .read⟩], ex := true, fn := fun x => toRead x }
noncomputable def toReadS (a : List GRead) : Option ((List GRead)) :=
 (mk (a.length : Int)).bind fun m1 =>
 loopD (fun (x2 : (List GRead) × (List GRead) × Int) =>
  bif (decide (x2.2.2 < (x2.1.length : Int))) then
   (idx x2.1 x2.2.2).bind fun e3 =>
   (toRead (reRead e3)).bind fun r4 =>
   (idx x2.2.1 x2.2.2).bind fun _ =>
   (x2.2.1[x2.2.2.toNat]?).bind fun e6 =>
   some (.inl (x2.1, x2.2.1.set x2.2.2.toNat (reRead r4), w64 (x2.2.2 + 1)))
  else
   some (.inr (x2.2.1))
 ) (a, List.replicate m1 (GRead.mk 0 0 0 [] (GVal.mk 0 0 0 [] [] [] [])), 0)
noncomputable def toReadSFS : Fsp := { fid := 28, ps := [⟨false, .list (.base .read)⟩], rs := [⟨false, .list (.base .read)⟩], ex := true, fn := fun x => toReadS x }
noncomputable def toOp (a : GOp) : Option (GOp) :=
 (toIntS a.seen).bind fun r1 =>
 (toEdit a.edit).bind fun r2 =>
 (toReadS a.reads).bind fun r3 =>
 some (GOp.mk a.time a.by_ a.kind r1 r2 a.src a.dst a.cell a.version r3)
noncomputable def toOpFS : Fsp := { fid := 16, ps := [⟨true, .base .op⟩], rs := [⟨true, .base .op⟩], ex := true, fn := fun x => toOp x }
noncomputable def toOpS (a : List GOp) : Option ((List GOp)) :=
 (mk (a.length : Int)).bind fun m1 =>
 loopD (fun (x2 : (List GOp) × (List GOp) × Int) =>
  bif (decide (x2.2.2 < (x2.1.length : Int))) then
   (idx x2.1 x2.2.2).bind fun e3 =>
   (toOp e3).bind fun r4 =>
   (idx x2.2.1 x2.2.2).bind fun _ =>
   (x2.2.1[x2.2.2.toNat]?).bind fun e6 =>
   some (.inl (x2.1, x2.2.1.set x2.2.2.toNat r4, w64 (x2.2.2 + 1)))
  else
   some (.inr (x2.2.1))
 ) (a, List.replicate m1 (GOp.mk 0 0 0 [] (GEdit.mk 0 0 (GCell.mk 0 0 0 [] [] 0)) [] [] 0 0 []), 0)
noncomputable def toOpSFS : Fsp := { fid := 8, ps := [⟨false, .list (.base .op)⟩], rs := [⟨false, .list (.base .op)⟩], ex := true, fn := fun x => toOpS x }
noncomputable def iParse (a : Str) (b c : Int) : Option (Int × Bool) := libParse a b c
noncomputable def iParseFS : Fsp := { fid := 119, ps := [⟨false, .base .str⟩, ⟨false, .base .int⟩, ⟨false, .base .int⟩], rs := [⟨false, .base .int⟩, ⟨false, .base .bool⟩], ex := true, fn := fun x => iParse x.1 x.2.1 x.2.2 }
noncomputable def libIndexByteFS : Fsp := { fid := 120, ps := [⟨false, .base .str⟩, ⟨false, .base .u8⟩], rs := [⟨false, .base .int⟩], ex := true, fn := fun x => libIndexByte x.1 x.2 }
noncomputable def iIsValidText (a : Str) : Option (Bool) :=
 loopD (fun (x1 : Str × Int) =>
  bif (decide (x1.2 < (x1.1.length : Int))) then
   (idx x1.1 x1.2).bind fun c2 =>
   bif (decide ((c2.toNat : Int) < 32)) then
    some (.inr (false))
   else
    (idx x1.1 x1.2).bind fun c3 =>
    bif (decide ((c3.toNat : Int) > 126)) then
     some (.inr (false))
    else
     (idx x1.1 x1.2).bind fun c4 =>
     bif ((c4.toNat : Int) == 34) then
      some (.inr (false))
     else
      some (.inl (x1.1, w64 (x1.2 + 1)))
  else
   some (.inr ((decide ((x1.1.length : Int) ≤ 20))))
 ) (a, 0)
noncomputable def iIsValidTextFS : Fsp := { fid := 121, ps := [⟨false, .base .str⟩], rs := [⟨false, .base .bool⟩], ex := true, fn := fun x => iIsValidText x }
noncomputable def libHasPrefixFS : Fsp := { fid := 122, ps := [⟨false, .base .str⟩, ⟨false, .base .str⟩], rs := [⟨false, .base .bool⟩], ex := true, fn := fun x => libHasPrefix x.1 x.2 }
noncomputable def iTokenAt (a : Str) (b : Int) : Option (GToken × Int × Bool) :=
 (idx a b).bind fun c1 =>
 bif (decide ((c1.toNat : Int) ≥ 97)) then
  bif (decide ((c1.toNat : Int) ≤ 122)) then
   loopD (fun (x2 : Str × Int × Int × Int × Int × Str × Int) =>
    bif (decide (x2.2.2.2.2.2.2 < (x2.1.length : Int))) then
     (idx x2.1 x2.2.2.2.2.2.2).bind fun c3 =>
     bif (decide ((c3.toNat : Int) ≥ 97)) then
      (idx x2.1 x2.2.2.2.2.2.2).bind fun c4 =>
      bif (decide ((c4.toNat : Int) ≤ 122)) then
       some (.inl (x2.1, x2.2.1, x2.2.2.1, x2.2.2.2.1, x2.2.2.2.2.1, x2.2.2.2.2.2.1, w64 (x2.2.2.2.2.2.2 + 1)))
      else
      (idx x2.1 x2.2.2.2.2.2.2).bind fun c5 =>
      bif (decide ((c5.toNat : Int) ≥ 48)) then
       (idx x2.1 x2.2.2.2.2.2.2).bind fun c6 =>
       bif (decide ((c6.toNat : Int) ≤ 57)) then
        some (.inl (x2.1, x2.2.1, x2.2.2.1, x2.2.2.2.1, x2.2.2.2.2.1, x2.2.2.2.2.2.1, w64 (x2.2.2.2.2.2.2 + 1)))
       else
        (
         (eff.cutL x2.1 (some x2.2.1) (some x2.2.2.2.2.2.2)).bind fun r7 =>
         some (GToken.mk 1 0 x2.2.1 r7, x2.2.2.2.2.2.2, (decide ((w64 (x2.2.2.2.2.2.2 - x2.2.1)) ≤ 8)))
        ).bind fun r => some (.inr r)
      else
       (
        (eff.cutL x2.1 (some x2.2.1) (some x2.2.2.2.2.2.2)).bind fun r8 =>
        some (GToken.mk 1 0 x2.2.1 r8, x2.2.2.2.2.2.2, (decide ((w64 (x2.2.2.2.2.2.2 - x2.2.1)) ≤ 8)))
       ).bind fun r => some (.inr r)
     else
     (idx x2.1 x2.2.2.2.2.2.2).bind fun c9 =>
     bif (decide ((c9.toNat : Int) ≥ 48)) then
      (idx x2.1 x2.2.2.2.2.2.2).bind fun c10 =>
      bif (decide ((c10.toNat : Int) ≤ 57)) then
       some (.inl (x2.1, x2.2.1, x2.2.2.1, x2.2.2.2.1, x2.2.2.2.2.1, x2.2.2.2.2.2.1, w64 (x2.2.2.2.2.2.2 + 1)))
      else
       (
        (eff.cutL x2.1 (some x2.2.1) (some x2.2.2.2.2.2.2)).bind fun r11 =>
        some (GToken.mk 1 0 x2.2.1 r11, x2.2.2.2.2.2.2, (decide ((w64 (x2.2.2.2.2.2.2 - x2.2.1)) ≤ 8)))
       ).bind fun r => some (.inr r)
     else
      (
       (eff.cutL x2.1 (some x2.2.1) (some x2.2.2.2.2.2.2)).bind fun r12 =>
       some (GToken.mk 1 0 x2.2.1 r12, x2.2.2.2.2.2.2, (decide ((w64 (x2.2.2.2.2.2.2 - x2.2.1)) ≤ 8)))
      ).bind fun r => some (.inr r)
    else
     (
      (eff.cutL x2.1 (some x2.2.1) (some x2.2.2.2.2.2.2)).bind fun r13 =>
      some (GToken.mk 1 0 x2.2.1 r13, x2.2.2.2.2.2.2, (decide ((w64 (x2.2.2.2.2.2.2 - x2.2.1)) ≤ 8)))
     ).bind fun r => some (.inr r)
   ) (a, b, 0, 0, 0, [], b)
  else
  bif (decide ((c1.toNat : Int) ≥ 48)) then
   bif (decide ((c1.toNat : Int) ≤ 57)) then
    loopD (fun (x14 : Str × Int × Int × Int × Int × Str × Int) =>
     bif (decide (x14.2.2.2.2.2.2 < (x14.1.length : Int))) then
      (idx x14.1 x14.2.2.2.2.2.2).bind fun c15 =>
      bif (decide ((c15.toNat : Int) ≥ 48)) then
       (idx x14.1 x14.2.2.2.2.2.2).bind fun c16 =>
       bif (decide ((c16.toNat : Int) ≤ 57)) then
        some (.inl (x14.1, x14.2.1, x14.2.2.1, x14.2.2.2.1, x14.2.2.2.2.1, x14.2.2.2.2.2.1, w64 (x14.2.2.2.2.2.2 + 1)))
       else
        (
         (eff.cutL x14.1 (some x14.2.1) (some x14.2.2.2.2.2.2)).bind fun r17 =>
         (iParse r17 0 1000000000).bind fun r18 =>
         some (GToken.mk 2 r18.1 x14.2.1 [], x14.2.2.2.2.2.2, r18.2)
        ).bind fun r => some (.inr r)
      else
       (
        (eff.cutL x14.1 (some x14.2.1) (some x14.2.2.2.2.2.2)).bind fun r19 =>
        (iParse r19 0 1000000000).bind fun r20 =>
        some (GToken.mk 2 r20.1 x14.2.1 [], x14.2.2.2.2.2.2, r20.2)
       ).bind fun r => some (.inr r)
     else
      (
       (eff.cutL x14.1 (some x14.2.1) (some x14.2.2.2.2.2.2)).bind fun r21 =>
       (iParse r21 0 1000000000).bind fun r22 =>
       some (GToken.mk 2 r22.1 x14.2.1 [], x14.2.2.2.2.2.2, r22.2)
      ).bind fun r => some (.inr r)
    ) (a, b, 0, 0, 0, [], b)
   else
   bif ((c1.toNat : Int) == 34) then
    (eff.cutL a (some (w64 (b + 1))) none).bind fun r23 =>
    (libIndexByte r23 34).bind fun r24 =>
    bif (decide (r24 < 0)) then
     some (GToken.mk 0 0 0 [], 0, false)
    else
     (eff.cutL a (some (w64 (b + 1))) (some (w64 ((w64 (b + 1)) + r24)))).bind fun r25 =>
     (iIsValidText r25).bind fun r26 =>
     some (GToken.mk 3 0 b r25, w64 ((w64 (b + r24)) + 2), r26)
   else
    (eff.cutL a (some b) none).bind fun r27 =>
    (libHasPrefix r27 [61, 61]).bind fun r28 =>
    bif r28 then
     some (GToken.mk 4 0 b [61, 61], w64 (b + 2), true)
    else
     (eff.cutL a (some b) (some (w64 (b + 1)))).bind fun r29 =>
     (libIndexByte [40, 41, 91, 93, 44, 43, 45, 42, 60, 61] (c1.toNat : Int)).bind fun r30 =>
     some (GToken.mk 4 0 b r29, w64 (b + 1), (decide (r30 ≥ 0)))
  else
  bif ((c1.toNat : Int) == 34) then
   (eff.cutL a (some (w64 (b + 1))) none).bind fun r31 =>
   (libIndexByte r31 34).bind fun r32 =>
   bif (decide (r32 < 0)) then
    some (GToken.mk 0 0 0 [], 0, false)
   else
    (eff.cutL a (some (w64 (b + 1))) (some (w64 ((w64 (b + 1)) + r32)))).bind fun r33 =>
    (iIsValidText r33).bind fun r34 =>
    some (GToken.mk 3 0 b r33, w64 ((w64 (b + r32)) + 2), r34)
  else
   (eff.cutL a (some b) none).bind fun r35 =>
   (libHasPrefix r35 [61, 61]).bind fun r36 =>
   bif r36 then
    some (GToken.mk 4 0 b [61, 61], w64 (b + 2), true)
   else
    (eff.cutL a (some b) (some (w64 (b + 1)))).bind fun r37 =>
    (libIndexByte [40, 41, 91, 93, 44, 43, 45, 42, 60, 61] (c1.toNat : Int)).bind fun r38 =>
    some (GToken.mk 4 0 b r37, w64 (b + 1), (decide (r38 ≥ 0)))
 else
 bif (decide ((c1.toNat : Int) ≥ 48)) then
  bif (decide ((c1.toNat : Int) ≤ 57)) then
   loopD (fun (x39 : Str × Int × Int × Int × Int × Str × Int) =>
    bif (decide (x39.2.2.2.2.2.2 < (x39.1.length : Int))) then
     (idx x39.1 x39.2.2.2.2.2.2).bind fun c40 =>
     bif (decide ((c40.toNat : Int) ≥ 48)) then
      (idx x39.1 x39.2.2.2.2.2.2).bind fun c41 =>
      bif (decide ((c41.toNat : Int) ≤ 57)) then
       some (.inl (x39.1, x39.2.1, x39.2.2.1, x39.2.2.2.1, x39.2.2.2.2.1, x39.2.2.2.2.2.1, w64 (x39.2.2.2.2.2.2 + 1)))
      else
       (
        (eff.cutL x39.1 (some x39.2.1) (some x39.2.2.2.2.2.2)).bind fun r42 =>
        (iParse r42 0 1000000000).bind fun r43 =>
        some (GToken.mk 2 r43.1 x39.2.1 [], x39.2.2.2.2.2.2, r43.2)
       ).bind fun r => some (.inr r)
     else
      (
       (eff.cutL x39.1 (some x39.2.1) (some x39.2.2.2.2.2.2)).bind fun r44 =>
       (iParse r44 0 1000000000).bind fun r45 =>
       some (GToken.mk 2 r45.1 x39.2.1 [], x39.2.2.2.2.2.2, r45.2)
      ).bind fun r => some (.inr r)
    else
     (
      (eff.cutL x39.1 (some x39.2.1) (some x39.2.2.2.2.2.2)).bind fun r46 =>
      (iParse r46 0 1000000000).bind fun r47 =>
      some (GToken.mk 2 r47.1 x39.2.1 [], x39.2.2.2.2.2.2, r47.2)
     ).bind fun r => some (.inr r)
   ) (a, b, 0, 0, 0, [], b)
  else
  bif ((c1.toNat : Int) == 34) then
   (eff.cutL a (some (w64 (b + 1))) none).bind fun r48 =>
   (libIndexByte r48 34).bind fun r49 =>
   bif (decide (r49 < 0)) then
    some (GToken.mk 0 0 0 [], 0, false)
   else
    (eff.cutL a (some (w64 (b + 1))) (some (w64 ((w64 (b + 1)) + r49)))).bind fun r50 =>
    (iIsValidText r50).bind fun r51 =>
    some (GToken.mk 3 0 b r50, w64 ((w64 (b + r49)) + 2), r51)
  else
   (eff.cutL a (some b) none).bind fun r52 =>
   (libHasPrefix r52 [61, 61]).bind fun r53 =>
   bif r53 then
    some (GToken.mk 4 0 b [61, 61], w64 (b + 2), true)
   else
    (eff.cutL a (some b) (some (w64 (b + 1)))).bind fun r54 =>
    (libIndexByte [40, 41, 91, 93, 44, 43, 45, 42, 60, 61] (c1.toNat : Int)).bind fun r55 =>
    some (GToken.mk 4 0 b r54, w64 (b + 1), (decide (r55 ≥ 0)))
 else
 bif ((c1.toNat : Int) == 34) then
  (eff.cutL a (some (w64 (b + 1))) none).bind fun r56 =>
  (libIndexByte r56 34).bind fun r57 =>
  bif (decide (r57 < 0)) then
   some (GToken.mk 0 0 0 [], 0, false)
  else
   (eff.cutL a (some (w64 (b + 1))) (some (w64 ((w64 (b + 1)) + r57)))).bind fun r58 =>
   (iIsValidText r58).bind fun r59 =>
   some (GToken.mk 3 0 b r58, w64 ((w64 (b + r57)) + 2), r59)
 else
  (eff.cutL a (some b) none).bind fun r60 =>
  (libHasPrefix r60 [61, 61]).bind fun r61 =>
  bif r61 then
   some (GToken.mk 4 0 b [61, 61], w64 (b + 2), true)
  else
   (eff.cutL a (some b) (some (w64 (b + 1)))).bind fun r62 =>
   (libIndexByte [40, 41, 91, 93, 44, 43, 45, 42, 60, 61] (c1.toNat : Int)).bind fun r63 =>
   some (GToken.mk 4 0 b r62, w64 (b + 1), (decide (r63 ≥ 0)))
noncomputable def iTokenAtFS : Fsp := { fid := 78, ps := [⟨false, .base .str⟩, ⟨false, .base .int⟩], rs := [⟨true, .base .token⟩, ⟨false, .base .int⟩, ⟨false, .base .bool⟩], ex := true, fn := fun x => iTokenAt x.1 x.2 }
noncomputable def iTokenize (a : Str) : Option ((List GToken) × Int) :=
 bif (decide ((a.length : Int) > 120)) then
  some ([], 120)
 else
 loopD (fun (x1 : Str × (List GToken) × Int) =>
  bif (decide (x1.2.2 < (x1.1.length : Int))) then
   (idx x1.1 x1.2.2).bind fun c2 =>
   bif ((c2.toNat : Int) == 32) then
    some (.inl (x1.1, x1.2.1, w64 (x1.2.2 + 1)))
   else
    (iTokenAt x1.1 x1.2.2).bind fun r3 =>
    bif (!r3.2.2) then
     some (.inr ([], x1.2.2))
    else
     bif ((x1.2.1.length : Int) == 60) then
      some (.inr ([], x1.2.2))
     else
      (gd (x1.2.1.length + [r3.1].length)).bind fun _ =>
      some (.inl (x1.1, x1.2.1 ++ [r3.1], r3.2.1))
  else
   some (.inr (x1.2.1, (-1)))
 ) (a, [], 0)
noncomputable def iTokenizeFS : Fsp := { fid := 48, ps := [⟨false, .base .str⟩], rs := [⟨false, .list (.base .token)⟩, ⟨false, .base .int⟩], ex := true, fn := fun x => iTokenize x }
noncomputable def iIsKeyword (a : GToken) (b : Str) : Option (Bool) :=
 bif (a.kind == 1) then
  some ((a.text == b))
 else
  some (false)
noncomputable def iIsKeywordFS : Fsp := { fid := 79, ps := [⟨true, .base .token⟩, ⟨false, .base .str⟩], rs := [⟨false, .base .bool⟩], ex := true, fn := fun x => iIsKeyword x.1 x.2 }
noncomputable def iParserNext (a : GPsr) : Option (GPsr × GToken) :=
 bif (decide (a.bad < 0)) then
  bif (decide (a.i < (a.toks.length : Int))) then
   (idx a.toks a.i).bind fun e1 =>
   some (a, e1)
  else
   some (a, GToken.mk 0 0 0 [])
 else
  some (a, GToken.mk 0 0 0 [])
noncomputable def iParserNextFS : Fsp := { fid := 80, ps := [⟨true, .base .psr⟩], rs := [⟨true, .base .psr⟩, ⟨true, .base .token⟩], ex := false, fn := fun x => iParserNext x }
noncomputable def iWithin (a : Int) (b : Int) (c : Int) : Option (Bool) :=
 bif (decide (b ≤ a)) then
  some ((decide (a ≤ c)))
 else
  some (false)
noncomputable def iWithinFS : Fsp := { fid := 126, ps := [⟨false, .base .int⟩, ⟨false, .base .int⟩, ⟨false, .base .int⟩], rs := [⟨false, .base .bool⟩], ex := true, fn := fun x => iWithin x.1 x.2.1 x.2.2 }
noncomputable def iIsWord (a : Str) : Option (Bool) :=
 loopD (fun (x1 : Str × Int) =>
  bif (decide (x1.2 < (x1.1.length : Int))) then
   (idx x1.1 x1.2).bind fun c2 =>
   bif (decide ((c2.toNat : Int) ≥ 97)) then
    (idx x1.1 x1.2).bind fun c3 =>
    bif (!(decide ((c3.toNat : Int) ≤ 122))) then
     bif (x1.2 == 0) then
      some (.inr (false))
     else
      (idx x1.1 x1.2).bind fun c4 =>
      bif (decide ((c4.toNat : Int) < 48)) then
       some (.inr (false))
      else
       (idx x1.1 x1.2).bind fun c5 =>
       bif (decide ((c5.toNat : Int) > 57)) then
        some (.inr (false))
       else
        some (.inl (x1.1, w64 (x1.2 + 1)))
    else
     some (.inl (x1.1, w64 (x1.2 + 1)))
   else
   bif (x1.2 == 0) then
    some (.inr (false))
   else
    (idx x1.1 x1.2).bind fun c6 =>
    bif (decide ((c6.toNat : Int) < 48)) then
     some (.inr (false))
    else
     (idx x1.1 x1.2).bind fun c7 =>
     bif (decide ((c7.toNat : Int) > 57)) then
      some (.inr (false))
     else
      some (.inl (x1.1, w64 (x1.2 + 1)))
  else
   (
    (iWithin (x1.1.length : Int) 1 8).bind fun r8 =>
    some (r8)
   ).bind fun r => some (.inr r)
 ) (a, 0)
noncomputable def iIsWordFS : Fsp := { fid := 90, ps := [⟨false, .base .str⟩], rs := [⟨false, .base .bool⟩], ex := true, fn := fun x => iIsWord x }
noncomputable def iArgumentCount (a : Str) : Option (Int) :=
 bif (a == [99, 108, 111, 99, 107]) then
  some (0)
 else
 bif (a == [108, 101, 110]) then
  some (1)
 else
 bif (a == [115, 117, 109]) then
  some (1)
 else
 bif (a == [114, 111, 119, 115]) then
  some (1)
 else
 bif (a == [99, 104, 97, 110, 99, 101]) then
  some (1)
 else
 bif (a == [102, 105, 108, 101]) then
  some (1)
 else
 bif (a == [116, 97, 107, 101]) then
  some (2)
 else
 bif (a == [115, 107, 105, 112]) then
  some (2)
 else
 bif (a == [114, 97, 110, 103, 101]) then
  some (2)
 else
 bif (a == [110, 116, 104]) then
  some (2)
 else
 bif (a == [107, 101, 101, 112]) then
  some (2)
 else
 bif (a == [99, 111, 108, 117, 109, 110]) then
  some (2)
 else
 bif (a == [116, 97, 98, 108, 101]) then
  some (2)
 else
 bif (a == [119, 104, 101, 114, 101]) then
  some (3)
 else
  bif (a == [103, 114, 111, 117, 112]) then
   some (3)
  else
   bif (a == [106, 111, 105, 110]) then
    some (3)
   else
    bif (a == [97, 100, 100]) then
     some (4)
    else
     some ((-1))
noncomputable def iArgumentCountFS : Fsp := { fid := 129, ps := [⟨false, .base .str⟩], rs := [⟨false, .base .int⟩], ex := true, fn := fun x => iArgumentCount x }
noncomputable def iIsReserved (a : Str) : Option (Bool) :=
 bif (a == [108, 101, 116]) then
  some (true)
 else
 bif (a == [105, 110]) then
  some (true)
 else
 bif (a == [105, 102]) then
  some (true)
 else
 bif (a == [116, 104, 101, 110]) then
  some (true)
 else
 bif (a == [101, 108, 115, 101]) then
  some (true)
 else
  bif (a == [102, 111, 114]) then
   some (true)
  else
   bif (a == [100, 111]) then
    some (true)
   else
    (iArgumentCount a).bind fun r1 =>
    some ((decide (r1 ≥ 0)))
noncomputable def iIsReservedFS : Fsp := { fid := 91, ps := [⟨false, .base .str⟩], rs := [⟨false, .base .bool⟩], ex := true, fn := fun x => iIsReserved x }
noncomputable def iIsValidName (a : Str) : Option (Bool) :=
 (iIsWord a).bind fun r1 =>
 bif r1 then
  (iIsReserved a).bind fun r2 =>
  some ((!r2))
 else
  some (false)
noncomputable def iIsValidNameFS : Fsp := { fid := 54, ps := [⟨false, .base .str⟩], rs := [⟨false, .base .bool⟩], ex := true, fn := fun x => iIsValidName x }
noncomputable def iParserFail (a : GPsr) : Option (GPsr × GExpr) :=
 bif (decide (a.bad < 0)) then
  some (GPsr.mk a.toks a.i a.i, GExpr.mk 0 0 [] [])
 else
  some (a, GExpr.mk 0 0 [] [])
noncomputable def iParserFailFS : Fsp := { fid := 123, ps := [⟨true, .base .psr⟩], rs := [⟨true, .base .psr⟩, ⟨true, .base .expr⟩], ex := false, sh := true, fn := fun x => iParserFail x }
noncomputable def iParserName (a : GPsr) : Option (GPsr × Str) :=
 (iParserNext a).bind fun r1 =>
 bif (r1.2.kind != 1) then
  (iParserFail r1.1).bind fun r2 =>
  some (r2.1, [])
 else
  (iIsValidName r1.2.text).bind fun r3 =>
  bif (!r3) then
   (iParserFail r1.1).bind fun r4 =>
   some (r4.1, [])
  else
   some (GPsr.mk r1.1.toks (w64 (r1.1.i + 1)) r1.1.bad, r1.2.text)
noncomputable def iParserNameFS : Fsp := { fid := 81, ps := [⟨true, .base .psr⟩], rs := [⟨true, .base .psr⟩, ⟨false, .base .str⟩], ex := false, fn := fun x => iParserName x }
noncomputable def iIsSymbol (a : GToken) (b : Str) : Option (Bool) :=
 bif (a.kind == 4) then
  some ((a.text == b))
 else
  some (false)
noncomputable def iIsSymbolFS : Fsp := { fid := 124, ps := [⟨true, .base .token⟩, ⟨false, .base .str⟩], rs := [⟨false, .base .bool⟩], ex := true, fn := fun x => iIsSymbol x.1 x.2 }
noncomputable def iParserNeed (a : GPsr) (b : Str) : Option (GPsr) :=
 (iParserNext a).bind fun r1 =>
 (iIsKeyword r1.2 b).bind fun r2 =>
 bif r2 then
  some (GPsr.mk r1.1.toks (w64 (r1.1.i + 1)) r1.1.bad)
 else
  (iParserNext r1.1).bind fun r3 =>
  (iIsSymbol r3.2 b).bind fun r4 =>
  bif r4 then
   some (GPsr.mk r3.1.toks (w64 (r3.1.i + 1)) r3.1.bad)
  else
   (iParserFail r3.1).bind fun r5 =>
   some (r5.1)
noncomputable def iParserNeedFS : Fsp := { fid := 82, ps := [⟨true, .base .psr⟩, ⟨false, .base .str⟩], rs := [⟨true, .base .psr⟩], ex := false, fn := fun x => iParserNeed x.1 x.2 }
noncomputable def iParserSymbol (a : GPsr) (b : Str) : Option (GPsr × Bool) :=
 (iParserNext a).bind fun r1 =>
 (iIsSymbol r1.2 b).bind fun r2 =>
 bif r2 then
  some (GPsr.mk r1.1.toks (w64 (r1.1.i + 1)) r1.1.bad, true)
 else
  some (r1.1, false)
noncomputable def iParserSymbolFS : Fsp := { fid := 84, ps := [⟨true, .base .psr⟩, ⟨false, .base .str⟩], rs := [⟨true, .base .psr⟩, ⟨false, .base .bool⟩], ex := false, fn := fun x => iParserSymbol x.1 x.2 }
noncomputable def iOpSymbol (a : Int) : Option (Str) :=
 (iWithin a 1 5).bind fun r1 =>
 bif (!r1) then
  some ([63])
 else
  (idx ([[43], [45], [42], [60], [61, 61]] : List Str) (w64 (a - 1))).bind fun _ =>
  (([[43], [45], [42], [60], [61, 61]] : List Str)[(w64 (a - 1)).toNat]?).bind fun e3 =>
  some (e3)
noncomputable def iOpSymbolFS : Fsp := { fid := 85, ps := [⟨false, .base .int⟩], rs := [⟨false, .base .str⟩], ex := true, fn := fun x => iOpSymbol x }
noncomputable def iParserExprB (riParserExpr : GPsr → Option (GPsr × GExpr)) (riParserSum : GPsr → Option (GPsr × GExpr)) (riParserProduct : GPsr → Option (GPsr × GExpr)) (riParserAtom : GPsr → Option (GPsr × GExpr)) (riParserList2 : GPsr → Str → Option (GPsr × (List GExpr))) (a : GPsr) : Option (GPsr × GExpr) :=
 (iParserNext a).bind fun r1 =>
 (iIsKeyword r1.2 [108, 101, 116]).bind fun r2 =>
 bif r2 then
  (iParserName (GPsr.mk r1.1.toks (w64 (r1.1.i + 1)) r1.1.bad)).bind fun r3 =>
  (iParserNeed r3.1 [61]).bind fun r4 =>
  (riParserExpr r4).bind fun r5 =>
  (gd ([reExpr r5.2].length)).bind fun _ =>
  (iParserNeed r5.1 [105, 110]).bind fun r6 =>
  (riParserExpr r6).bind fun r7 =>
  (gd ([reExpr r5.2].length + [reExpr r7.2].length)).bind fun _ =>
  some (r7.1, GExpr.mk 7 0 r3.2 ([reExpr r5.2] ++ [reExpr r7.2]))
 else
 (iParserNext r1.1).bind fun r8 =>
 (iIsKeyword r8.2 [105, 102]).bind fun r9 =>
 bif r9 then
  (riParserExpr (GPsr.mk r8.1.toks (w64 (r8.1.i + 1)) r8.1.bad)).bind fun r10 =>
  (gd ([reExpr r10.2].length)).bind fun _ =>
  (iParserNeed r10.1 [116, 104, 101, 110]).bind fun r11 =>
  (riParserExpr r11).bind fun r12 =>
  (gd ([reExpr r10.2].length + [reExpr r12.2].length)).bind fun _ =>
  (iParserNeed r12.1 [101, 108, 115, 101]).bind fun r13 =>
  (riParserExpr r13).bind fun r14 =>
  (gd (([reExpr r10.2] ++ [reExpr r12.2]).length + [reExpr r14.2].length)).bind fun _ =>
  some (r14.1, GExpr.mk 8 0 [] (([reExpr r10.2] ++ [reExpr r12.2]) ++ [reExpr r14.2]))
 else
 (iParserNext r8.1).bind fun r15 =>
 (iIsKeyword r15.2 [102, 111, 114]).bind fun r16 =>
 bif r16 then
  (iParserName (GPsr.mk r15.1.toks (w64 (r15.1.i + 1)) r15.1.bad)).bind fun r17 =>
  (iParserNeed r17.1 [105, 110]).bind fun r18 =>
  (riParserExpr r18).bind fun r19 =>
  (gd ([reExpr r19.2].length)).bind fun _ =>
  (iParserNeed r19.1 [100, 111]).bind fun r20 =>
  (riParserExpr r20).bind fun r21 =>
  (gd ([reExpr r19.2].length + [reExpr r21.2].length)).bind fun _ =>
  some (r21.1, GExpr.mk 9 0 r17.2 ([reExpr r19.2] ++ [reExpr r21.2]))
 else
 (riParserSum r15.1).bind fun r22 =>
 loopD (fun (x23 : (List GToken) × Int × Int × Int × Int × Str × (List GExpr) × Int × Int × Str × (List GExpr) × (List Int) × Int × Int) =>
  bif (decide (x23.2.2.2.2.2.2.2.2.2.2.2.2.2 < x23.2.2.2.2.2.2.2.2.2.2.2.2.1)) then
   (idx x23.2.2.2.2.2.2.2.2.2.2.2.1 x23.2.2.2.2.2.2.2.2.2.2.2.2.2).bind fun _ =>
   (x23.2.2.2.2.2.2.2.2.2.2.2.1[x23.2.2.2.2.2.2.2.2.2.2.2.2.2.toNat]?).bind fun e25 =>
   (iOpSymbol e25).bind fun r26 =>
   (iParserSymbol (GPsr.mk x23.1 x23.2.1 x23.2.2.1) r26).bind fun r27 =>
   bif r27.2 then
    (riParserSum r27.1).bind fun r28 =>
    some (.inr (r28.1, GExpr.mk 6 e25 [] [GExpr.mk x23.2.2.2.2.2.2.2.1 x23.2.2.2.2.2.2.2.2.1 x23.2.2.2.2.2.2.2.2.2.1 x23.2.2.2.2.2.2.2.2.2.2.1, reExpr r28.2]))
   else
    some (.inl (r27.1.toks, r27.1.i, r27.1.bad, x23.2.2.2.1, x23.2.2.2.2.1, x23.2.2.2.2.2.1, x23.2.2.2.2.2.2.1, x23.2.2.2.2.2.2.2.1, x23.2.2.2.2.2.2.2.2.1, x23.2.2.2.2.2.2.2.2.2.1, x23.2.2.2.2.2.2.2.2.2.2.1, x23.2.2.2.2.2.2.2.2.2.2.2.1, x23.2.2.2.2.2.2.2.2.2.2.2.2.1, w64 (x23.2.2.2.2.2.2.2.2.2.2.2.2.2 + 1)))
  else
   some (.inr (GPsr.mk x23.1 x23.2.1 x23.2.2.1, GExpr.mk x23.2.2.2.2.2.2.2.1 x23.2.2.2.2.2.2.2.2.1 x23.2.2.2.2.2.2.2.2.2.1 x23.2.2.2.2.2.2.2.2.2.2.1))
 ) (r22.1.toks, r22.1.i, r22.1.bad, 0, 0, [], [], r22.2.kind, r22.2.n, r22.2.text, r22.2.args, [4, 5], ([4, 5].length : Int), 0)
noncomputable def iParserSumB (riParserExpr : GPsr → Option (GPsr × GExpr)) (riParserSum : GPsr → Option (GPsr × GExpr)) (riParserProduct : GPsr → Option (GPsr × GExpr)) (riParserAtom : GPsr → Option (GPsr × GExpr)) (riParserList2 : GPsr → Str → Option (GPsr × (List GExpr))) (a : GPsr) : Option (GPsr × GExpr) :=
 (riParserProduct a).bind fun r1 =>
 loopD (fun (x2 : (List GToken) × Int × Int × Int × Int × Str × (List GExpr) × Int × Int × Str × (List GExpr)) =>
  bif (decide (x2.2.2.1 < 0)) then
   (iParserSymbol (GPsr.mk x2.1 x2.2.1 x2.2.2.1) [43]).bind fun r3 =>
   bif (!r3.2) then
    (iParserSymbol r3.1 [45]).bind fun r4 =>
    bif (!r4.2) then
     some (.inr (r4.1, GExpr.mk x2.2.2.2.2.2.2.2.1 x2.2.2.2.2.2.2.2.2.1 x2.2.2.2.2.2.2.2.2.2.1 x2.2.2.2.2.2.2.2.2.2.2))
    else
     (riParserProduct r4.1).bind fun r5 =>
     some (.inl (r5.1.toks, r5.1.i, r5.1.bad, x2.2.2.2.1, x2.2.2.2.2.1, x2.2.2.2.2.2.1, x2.2.2.2.2.2.2.1, 6, 2, [], [GExpr.mk x2.2.2.2.2.2.2.2.1 x2.2.2.2.2.2.2.2.2.1 x2.2.2.2.2.2.2.2.2.2.1 x2.2.2.2.2.2.2.2.2.2.2, reExpr r5.2]))
   else
    (riParserProduct r3.1).bind fun r6 =>
    some (.inl (r6.1.toks, r6.1.i, r6.1.bad, x2.2.2.2.1, x2.2.2.2.2.1, x2.2.2.2.2.2.1, x2.2.2.2.2.2.2.1, 6, 1, [], [GExpr.mk x2.2.2.2.2.2.2.2.1 x2.2.2.2.2.2.2.2.2.1 x2.2.2.2.2.2.2.2.2.2.1 x2.2.2.2.2.2.2.2.2.2.2, reExpr r6.2]))
  else
   some (.inr (GPsr.mk x2.1 x2.2.1 x2.2.2.1, GExpr.mk x2.2.2.2.2.2.2.2.1 x2.2.2.2.2.2.2.2.2.1 x2.2.2.2.2.2.2.2.2.2.1 x2.2.2.2.2.2.2.2.2.2.2))
 ) (r1.1.toks, r1.1.i, r1.1.bad, 0, 0, [], [], r1.2.kind, r1.2.n, r1.2.text, r1.2.args)
noncomputable def iParserProductB (riParserExpr : GPsr → Option (GPsr × GExpr)) (riParserSum : GPsr → Option (GPsr × GExpr)) (riParserProduct : GPsr → Option (GPsr × GExpr)) (riParserAtom : GPsr → Option (GPsr × GExpr)) (riParserList2 : GPsr → Str → Option (GPsr × (List GExpr))) (a : GPsr) : Option (GPsr × GExpr) :=
 (riParserAtom a).bind fun r1 =>
 loopD (fun (x2 : (List GToken) × Int × Int × Int × Int × Str × (List GExpr) × Int × Int × Str × (List GExpr)) =>
  (iParserSymbol (GPsr.mk x2.1 x2.2.1 x2.2.2.1) [42]).bind fun r3 =>
  bif r3.2 then
   (riParserAtom r3.1).bind fun r4 =>
   some (.inl (r4.1.toks, r4.1.i, r4.1.bad, x2.2.2.2.1, x2.2.2.2.2.1, x2.2.2.2.2.2.1, x2.2.2.2.2.2.2.1, 6, 3, [], [GExpr.mk x2.2.2.2.2.2.2.2.1 x2.2.2.2.2.2.2.2.2.1 x2.2.2.2.2.2.2.2.2.2.1 x2.2.2.2.2.2.2.2.2.2.2, reExpr r4.2]))
  else
   some (.inr (r3.1, GExpr.mk x2.2.2.2.2.2.2.2.1 x2.2.2.2.2.2.2.2.2.1 x2.2.2.2.2.2.2.2.2.2.1 x2.2.2.2.2.2.2.2.2.2.2))
 ) (r1.1.toks, r1.1.i, r1.1.bad, 0, 0, [], [], r1.2.kind, r1.2.n, r1.2.text, r1.2.args)
noncomputable def iParserAtomB (riParserExpr : GPsr → Option (GPsr × GExpr)) (riParserSum : GPsr → Option (GPsr × GExpr)) (riParserProduct : GPsr → Option (GPsr × GExpr)) (riParserAtom : GPsr → Option (GPsr × GExpr)) (riParserList2 : GPsr → Str → Option (GPsr × (List GExpr))) (a : GPsr) : Option (GPsr × GExpr) :=
 (iParserNext a).bind fun r1 =>
 bif (r1.2.kind == 2) then
  some (GPsr.mk r1.1.toks (w64 (r1.1.i + 1)) r1.1.bad, GExpr.mk 1 r1.2.n [] [])
 else
 bif (r1.2.kind == 3) then
  some (GPsr.mk r1.1.toks (w64 (r1.1.i + 1)) r1.1.bad, GExpr.mk 2 0 r1.2.text [])
 else
 bif (r1.2.kind == 1) then
  (iIsValidName r1.2.text).bind fun r2 =>
  bif r2 then
   some (GPsr.mk r1.1.toks (w64 (r1.1.i + 1)) r1.1.bad, GExpr.mk 3 0 r1.2.text [])
  else
  bif (r1.2.kind == 1) then
   (iArgumentCount r1.2.text).bind fun r3 =>
   bif (decide (r3 ≥ 0)) then
    (iParserNeed (GPsr.mk r1.1.toks (w64 (r1.1.i + 1)) r1.1.bad) [40]).bind fun r4 =>
    (riParserList2 r4 [41]).bind fun r5 =>
    some (r5.1, GExpr.mk 5 0 r1.2.text r5.2)
   else
   (iParserSymbol r1.1 [91]).bind fun r6 =>
   bif r6.2 then
    (riParserList2 r6.1 [93]).bind fun r7 =>
    some (r7.1, GExpr.mk 4 0 [] r7.2)
   else
    (iParserSymbol r6.1 [40]).bind fun r8 =>
    bif r8.2 then
     (riParserExpr r8.1).bind fun r9 =>
     (iParserNeed r9.1 [41]).bind fun r10 =>
     some (r10, reExpr r9.2)
    else
     (iParserFail r8.1).bind fun r11 =>
     some (r11.1, reExpr r11.2)
  else
  (iParserSymbol r1.1 [91]).bind fun r12 =>
  bif r12.2 then
   (riParserList2 r12.1 [93]).bind fun r13 =>
   some (r13.1, GExpr.mk 4 0 [] r13.2)
  else
   (iParserSymbol r12.1 [40]).bind fun r14 =>
   bif r14.2 then
    (riParserExpr r14.1).bind fun r15 =>
    (iParserNeed r15.1 [41]).bind fun r16 =>
    some (r16, reExpr r15.2)
   else
    (iParserFail r14.1).bind fun r17 =>
    some (r17.1, reExpr r17.2)
 else
 bif (r1.2.kind == 1) then
  (iArgumentCount r1.2.text).bind fun r18 =>
  bif (decide (r18 ≥ 0)) then
   (iParserNeed (GPsr.mk r1.1.toks (w64 (r1.1.i + 1)) r1.1.bad) [40]).bind fun r19 =>
   (riParserList2 r19 [41]).bind fun r20 =>
   some (r20.1, GExpr.mk 5 0 r1.2.text r20.2)
  else
  (iParserSymbol r1.1 [91]).bind fun r21 =>
  bif r21.2 then
   (riParserList2 r21.1 [93]).bind fun r22 =>
   some (r22.1, GExpr.mk 4 0 [] r22.2)
  else
   (iParserSymbol r21.1 [40]).bind fun r23 =>
   bif r23.2 then
    (riParserExpr r23.1).bind fun r24 =>
    (iParserNeed r24.1 [41]).bind fun r25 =>
    some (r25, reExpr r24.2)
   else
    (iParserFail r23.1).bind fun r26 =>
    some (r26.1, reExpr r26.2)
 else
 (iParserSymbol r1.1 [91]).bind fun r27 =>
 bif r27.2 then
  (riParserList2 r27.1 [93]).bind fun r28 =>
  some (r28.1, GExpr.mk 4 0 [] r28.2)
 else
  (iParserSymbol r27.1 [40]).bind fun r29 =>
  bif r29.2 then
   (riParserExpr r29.1).bind fun r30 =>
   (iParserNeed r30.1 [41]).bind fun r31 =>
   some (r31, reExpr r30.2)
  else
   (iParserFail r29.1).bind fun r32 =>
   some (r32.1, reExpr r32.2)
noncomputable def iParserList2B (riParserExpr : GPsr → Option (GPsr × GExpr)) (riParserSum : GPsr → Option (GPsr × GExpr)) (riParserProduct : GPsr → Option (GPsr × GExpr)) (riParserAtom : GPsr → Option (GPsr × GExpr)) (riParserList2 : GPsr → Str → Option (GPsr × (List GExpr))) (a : GPsr) (b : Str) : Option (GPsr × (List GExpr)) :=
 (iParserSymbol a b).bind fun r1 =>
 bif r1.2 then
  some (r1.1, [])
 else
 loopD (fun (x2 : (List GToken) × Int × Int × Str × (List GExpr)) =>
  bif (decide (x2.2.2.1 < 0)) then
   (riParserExpr (GPsr.mk x2.1 x2.2.1 x2.2.2.1)).bind fun r3 =>
   (gd (x2.2.2.2.2.length + [reExpr r3.2].length)).bind fun _ =>
   (iParserSymbol r3.1 x2.2.2.2.1).bind fun r4 =>
   bif r4.2 then
    some (.inr (r4.1, x2.2.2.2.2 ++ [reExpr r3.2]))
   else
    (iParserNeed r4.1 [44]).bind fun r5 =>
    some (.inl (r5.toks, r5.i, r5.bad, x2.2.2.2.1, x2.2.2.2.2 ++ [reExpr r3.2]))
  else
   some (.inr (GPsr.mk x2.1 x2.2.1 x2.2.2.1, x2.2.2.2.2))
 ) (r1.1.toks, r1.1.i, r1.1.bad, b, [])
noncomputable def iParserExprG : Nat → (GPsr → Option (GPsr × GExpr)) × (GPsr → Option (GPsr × GExpr)) × (GPsr → Option (GPsr × GExpr)) × (GPsr → Option (GPsr × GExpr)) × (GPsr → Str → Option (GPsr × (List GExpr)))
 | 0 => (fun _ => none, fun _ => none, fun _ => none, fun _ => none, fun _ _ => none)
 | n + 1 => (iParserExprB (iParserExprG n).1 (iParserExprG n).2.1 (iParserExprG n).2.2.1 (iParserExprG n).2.2.2.1 (iParserExprG n).2.2.2.2, iParserSumB (iParserExprG n).1 (iParserExprG n).2.1 (iParserExprG n).2.2.1 (iParserExprG n).2.2.2.1 (iParserExprG n).2.2.2.2, iParserProductB (iParserExprG n).1 (iParserExprG n).2.1 (iParserExprG n).2.2.1 (iParserExprG n).2.2.2.1 (iParserExprG n).2.2.2.2, iParserAtomB (iParserExprG n).1 (iParserExprG n).2.1 (iParserExprG n).2.2.1 (iParserExprG n).2.2.2.1 (iParserExprG n).2.2.2.2, iParserList2B (iParserExprG n).1 (iParserExprG n).2.1 (iParserExprG n).2.2.1 (iParserExprG n).2.2.2.1 (iParserExprG n).2.2.2.2)
noncomputable def iParserExpr (a : GPsr) : Option (GPsr × GExpr) := (iParserExprG (siz a + 1)).1 a
noncomputable def iParserExprFS : Fsp := { fid := 49, ps := [⟨true, .base .psr⟩], rs := [⟨true, .base .psr⟩, ⟨true, .base .expr⟩], ex := false, fn := fun x => iParserExpr x }
noncomputable def iParserExprFSN (n : Nat) : Fsp := { fid := 49, ps := [⟨true, .base .psr⟩], rs := [⟨true, .base .psr⟩, ⟨true, .base .expr⟩], ex := false, fn := fun x => (iParserExprG n).1 x }
noncomputable def iParserSum (a : GPsr) : Option (GPsr × GExpr) := (iParserExprG (siz a + 1)).2.1 a
noncomputable def iParserSumFS : Fsp := { fid := 83, ps := [⟨true, .base .psr⟩], rs := [⟨true, .base .psr⟩, ⟨true, .base .expr⟩], ex := false, fn := fun x => iParserSum x }
noncomputable def iParserSumFSN (n : Nat) : Fsp := { fid := 83, ps := [⟨true, .base .psr⟩], rs := [⟨true, .base .psr⟩, ⟨true, .base .expr⟩], ex := false, fn := fun x => (iParserExprG n).2.1 x }
noncomputable def iParserProduct (a : GPsr) : Option (GPsr × GExpr) := (iParserExprG (siz a + 1)).2.2.1 a
noncomputable def iParserProductFS : Fsp := { fid := 125, ps := [⟨true, .base .psr⟩], rs := [⟨true, .base .psr⟩, ⟨true, .base .expr⟩], ex := false, fn := fun x => iParserProduct x }
noncomputable def iParserProductFSN (n : Nat) : Fsp := { fid := 125, ps := [⟨true, .base .psr⟩], rs := [⟨true, .base .psr⟩, ⟨true, .base .expr⟩], ex := false, fn := fun x => (iParserExprG n).2.2.1 x }
noncomputable def iParserAtom (a : GPsr) : Option (GPsr × GExpr) := (iParserExprG (siz a + 1)).2.2.2.1 a
noncomputable def iParserAtomFS : Fsp := { fid := 143, ps := [⟨true, .base .psr⟩], rs := [⟨true, .base .psr⟩, ⟨true, .base .expr⟩], ex := false, fn := fun x => iParserAtom x }
noncomputable def iParserAtomFSN (n : Nat) : Fsp := { fid := 143, ps := [⟨true, .base .psr⟩], rs := [⟨true, .base .psr⟩, ⟨true, .base .expr⟩], ex := false, fn := fun x => (iParserExprG n).2.2.2.1 x }
noncomputable def iParserList2 (a : GPsr) (b : Str) : Option (GPsr × (List GExpr)) := (iParserExprG (siz a + 1)).2.2.2.2 a b
noncomputable def iParserList2FS : Fsp := { fid := 155, ps := [⟨true, .base .psr⟩, ⟨false, .base .str⟩], rs := [⟨true, .base .psr⟩, ⟨false, .list (.base .expr)⟩], ex := false, fn := fun x => iParserList2 x.1 x.2 }
noncomputable def iParserList2FSN (n : Nat) : Fsp := { fid := 155, ps := [⟨true, .base .psr⟩, ⟨false, .base .str⟩], rs := [⟨true, .base .psr⟩, ⟨false, .list (.base .expr)⟩], ex := false, fn := fun x => (iParserExprG n).2.2.2.2 x.1 x.2 }
noncomputable def iNodeCountB (riNodeCount : GExpr → Option (Int)) (a : GExpr) : Option (Int) :=
 loopD (fun (x1 : Int × (List GExpr) × Int × Int) =>
  bif (decide (x1.2.2.2 < x1.2.2.1)) then
   (idx x1.2.1 x1.2.2.2).bind fun e2 =>
   (riNodeCount (reExpr e2)).bind fun r3 =>
   some (.inl (w64 (x1.1 + r3), x1.2.1, x1.2.2.1, w64 (x1.2.2.2 + 1)))
  else
   some (.inr (x1.1))
 ) (1, a.args, (a.args.length : Int), 0)
noncomputable def iNodeCountG : Nat → (GExpr → Option (Int))
 | 0 => fun _ => none
 | n + 1 => iNodeCountB (iNodeCountG n)
noncomputable def iNodeCount (a : GExpr) : Option (Int) := (iNodeCountG (siz a + 1)) a
noncomputable def iNodeCountFS : Fsp := { fid := 86, ps := [⟨true, .base .expr⟩], rs := [⟨false, .base .int⟩], ex := true, fn := fun x => iNodeCount x }
noncomputable def iNodeCountFSN (n : Nat) : Fsp := { fid := 86, ps := [⟨true, .base .expr⟩], rs := [⟨false, .base .int⟩], ex := true, fn := fun x => (iNodeCountG n) x }
noncomputable def iNestingOfB (riNestingOf : GExpr → Option (Int)) (a : GExpr) : Option (Int) :=
 loopD (fun (x1 : Int × (List GExpr) × Int × Int) =>
  bif (decide (x1.2.2.2 < x1.2.2.1)) then
   (idx x1.2.1 x1.2.2.2).bind fun e2 =>
   (riNestingOf (reExpr e2)).bind fun r3 =>
   some (.inl ((if r3 > x1.1 then r3 else x1.1), x1.2.1, x1.2.2.1, w64 (x1.2.2.2 + 1)))
  else
   some (.inr (w64 (x1.1 + 1)))
 ) (0, a.args, (a.args.length : Int), 0)
noncomputable def iNestingOfG : Nat → (GExpr → Option (Int))
 | 0 => fun _ => none
 | n + 1 => iNestingOfB (iNestingOfG n)
noncomputable def iNestingOf (a : GExpr) : Option (Int) := (iNestingOfG (siz a + 1)) a
noncomputable def iNestingOfFS : Fsp := { fid := 87, ps := [⟨true, .base .expr⟩], rs := [⟨false, .base .int⟩], ex := true, fn := fun x => iNestingOf x }
noncomputable def iNestingOfFSN (n : Nat) : Fsp := { fid := 87, ps := [⟨true, .base .expr⟩], rs := [⟨false, .base .int⟩], ex := true, fn := fun x => (iNestingOfG n) x }
noncomputable def iIsNode (a : GExpr) : Option (Bool) :=
 bif (a.kind == 1) then
  (iWithin a.n 0 1000000000).bind fun r1 =>
  bif r1 then
   bif (a.text == []) then
    some (((a.args.length : Int) == 0))
   else
    some (false)
  else
   some (false)
 else
 bif (a.kind == 2) then
  bif (a.n == 0) then
   (iIsValidText a.text).bind fun r2 =>
   bif r2 then
    some (((a.args.length : Int) == 0))
   else
    some (false)
  else
   some (false)
 else
 bif (a.kind == 3) then
  bif (a.n == 0) then
   (iIsValidName a.text).bind fun r3 =>
   bif r3 then
    some (((a.args.length : Int) == 0))
   else
    some (false)
  else
   some (false)
 else
 bif (a.kind == 4) then
  bif (a.n == 0) then
   bif (a.text == []) then
    some ((decide ((a.args.length : Int) ≤ 8)))
   else
    some (false)
  else
   some (false)
 else
 bif (a.kind == 5) then
  bif (a.n == 0) then
   (iArgumentCount a.text).bind fun r4 =>
   some (((a.args.length : Int) == r4))
  else
   some (false)
 else
 bif (a.kind == 6) then
  (iWithin a.n 1 5).bind fun r5 =>
  bif r5 then
   bif (a.text == []) then
    some (((a.args.length : Int) == 2))
   else
    some (false)
  else
   some (false)
 else
 bif (a.kind == 7) then
  bif (a.n == 0) then
   (iIsValidName a.text).bind fun r6 =>
   bif r6 then
    some (((a.args.length : Int) == 2))
   else
    some (false)
  else
   some (false)
 else
 bif (a.kind == 9) then
  bif (a.n == 0) then
   (iIsValidName a.text).bind fun r7 =>
   bif r7 then
    some (((a.args.length : Int) == 2))
   else
    some (false)
  else
   some (false)
 else
  bif (a.kind == 8) then
   bif (a.n == 0) then
    bif (a.text == []) then
     some (((a.args.length : Int) == 3))
    else
     some (false)
   else
    some (false)
  else
   some (false)
noncomputable def iIsNodeFS : Fsp := { fid := 127, ps := [⟨true, .base .expr⟩], rs := [⟨false, .base .bool⟩], ex := true, fn := fun x => iIsNode x }
noncomputable def iAreNodesB (riAreNodes : GExpr → Option (Bool)) (a : GExpr) : Option (Bool) :=
 loopD (fun (x1 : Int × Int × Str × (List GExpr) × (List GExpr) × Int × Int) =>
  bif (decide (x1.2.2.2.2.2.2 < x1.2.2.2.2.2.1)) then
   (idx x1.2.2.2.2.1 x1.2.2.2.2.2.2).bind fun e2 =>
   (riAreNodes (reExpr e2)).bind fun r3 =>
   bif (!r3) then
    some (.inr (false))
   else
    some (.inl (x1.1, x1.2.1, x1.2.2.1, x1.2.2.2.1, x1.2.2.2.2.1, x1.2.2.2.2.2.1, w64 (x1.2.2.2.2.2.2 + 1)))
  else
   (
    (iIsNode (GExpr.mk x1.1 x1.2.1 x1.2.2.1 x1.2.2.2.1)).bind fun r4 =>
    some (r4)
   ).bind fun r => some (.inr r)
 ) (a.kind, a.n, a.text, a.args, a.args, (a.args.length : Int), 0)
noncomputable def iAreNodesG : Nat → (GExpr → Option (Bool))
 | 0 => fun _ => none
 | n + 1 => iAreNodesB (iAreNodesG n)
noncomputable def iAreNodes (a : GExpr) : Option (Bool) := (iAreNodesG (siz a + 1)) a
noncomputable def iAreNodesFS : Fsp := { fid := 88, ps := [⟨true, .base .expr⟩], rs := [⟨false, .base .bool⟩], ex := true, fn := fun x => iAreNodes x }
noncomputable def iAreNodesFSN (n : Nat) : Fsp := { fid := 88, ps := [⟨true, .base .expr⟩], rs := [⟨false, .base .bool⟩], ex := true, fn := fun x => (iAreNodesG n) x }
noncomputable def iIsValidExpr (a : GExpr) : Option (Bool) :=
 (iNodeCount (reExpr a)).bind fun r1 =>
 bif (decide (r1 ≤ 40)) then
  (iNestingOf (reExpr a)).bind fun r2 =>
  bif (decide (r2 ≤ 8)) then
   (iAreNodes (reExpr a)).bind fun r3 =>
   some (r3)
  else
   some (false)
 else
  some (false)
noncomputable def iIsValidExprFS : Fsp := { fid := 50, ps := [⟨true, .base .expr⟩], rs := [⟨false, .base .bool⟩], ex := true, fn := fun x => iIsValidExpr x }
noncomputable def iParseExpr (a : Str) : Option (GExpr × Int) :=
 (iTokenize a).bind fun r1 =>
 bif (decide (r1.2 ≥ 0)) then
  some (GExpr.mk 0 0 [] [], r1.2)
 else
 (iParserExpr (GPsr.mk r1.1 0 (-1))).bind fun r2 =>
 bif (decide (r2.1.bad < 0)) then
  bif (decide (r2.1.i < (r1.1.length : Int))) then
   bif (decide (r2.1.i ≥ (r1.1.length : Int))) then
    some (GExpr.mk 0 0 [] [], (a.length : Int))
   else
   bif (decide (r2.1.i ≥ 0)) then
    (idx r1.1 r2.1.i).bind fun _ =>
    (r1.1[r2.1.i.toNat]?).bind fun e4 =>
    some (GExpr.mk 0 0 [] [], e4.pos)
   else
    (iIsValidExpr (reExpr r2.2)).bind fun r5 =>
    bif (!r5) then
     some (GExpr.mk 0 0 [] [], 0)
    else
     some (reExpr r2.2, (-1))
  else
  bif (decide (r2.1.bad ≥ (r1.1.length : Int))) then
   some (GExpr.mk 0 0 [] [], (a.length : Int))
  else
  bif (decide (r2.1.bad ≥ 0)) then
   (idx r1.1 r2.1.bad).bind fun _ =>
   (r1.1[r2.1.bad.toNat]?).bind fun e7 =>
   some (GExpr.mk 0 0 [] [], e7.pos)
  else
   (iIsValidExpr (reExpr r2.2)).bind fun r8 =>
   bif (!r8) then
    some (GExpr.mk 0 0 [] [], 0)
   else
    some (reExpr r2.2, (-1))
 else
 bif (decide (r2.1.bad ≥ (r1.1.length : Int))) then
  some (GExpr.mk 0 0 [] [], (a.length : Int))
 else
 bif (decide (r2.1.bad ≥ 0)) then
  (idx r1.1 r2.1.bad).bind fun _ =>
  (r1.1[r2.1.bad.toNat]?).bind fun e10 =>
  some (GExpr.mk 0 0 [] [], e10.pos)
 else
  (iIsValidExpr (reExpr r2.2)).bind fun r11 =>
  bif (!r11) then
   some (GExpr.mk 0 0 [] [], 0)
  else
   some (reExpr r2.2, (-1))
noncomputable def iParseExprFS : Fsp := { fid := 29, ps := [⟨false, .base .str⟩], rs := [⟨true, .base .expr⟩, ⟨false, .base .int⟩], ex := false, fn := fun x => iParseExpr x }
noncomputable def iIndexOf (a : List Str) (b : Str) : Option (Int) :=
 loopD (fun (x1 : Str × (List Str) × Int × Int) =>
  bif (decide (x1.2.2.2 < x1.2.2.1)) then
   (idx x1.2.1 x1.2.2.2).bind fun e2 =>
   bif (e2 == x1.1) then
    some (.inr (x1.2.2.2))
   else
    some (.inl (x1.1, x1.2.1, x1.2.2.1, w64 (x1.2.2.2 + 1)))
  else
   some (.inr ((-1)))
 ) (b, a, (a.length : Int), 0)
noncomputable def iIndexOfFS : Fsp := { fid := 30, ps := [⟨false, .list (.base .str)⟩, ⟨false, .base .str⟩], rs := [⟨false, .base .int⟩], ex := true, fn := fun x => iIndexOf x.1 x.2 }
noncomputable def iSortNames (a : List Str) : Option ((List Str)) :=
 loopD (fun (x1 : (List Str) × (List Str) × (List Str) × Int × Int) =>
  bif (decide (x1.2.2.2.2 < x1.2.2.2.1)) then
   (idx x1.2.2.1 x1.2.2.2.2).bind fun e2 =>
   (iIndexOf x1.1 e2).bind fun r3 =>
   bif (r3 == x1.2.2.2.2) then
    (gd (x1.2.1.length + ([e2] : List Str).length)).bind fun _ =>
    some (.inl (x1.1, x1.2.1 ++ ([e2] : List Str), x1.2.2.1, x1.2.2.2.1, w64 (x1.2.2.2.2 + 1)))
   else
    some (.inl (x1.1, x1.2.1, x1.2.2.1, x1.2.2.2.1, w64 (x1.2.2.2.2 + 1)))
  else
   (
    (libSortStrings x1.2.1).bind fun y4 =>
    some (y4)
   ).bind fun r => some (.inr r)
 ) (a, [], a, (a.length : Int), 0)
noncomputable def iSortNamesFS : Fsp := { fid := 53, ps := [⟨false, .list (.base .str)⟩], rs := [⟨false, .list (.base .str)⟩], ex := true, fn := fun x => iSortNames x }
noncomputable def iFreeNames (a : GExpr) : Option (List Str) := (walkEvs (siz a + 1) a []).bind fun es => (gd es.length).bind fun _ => iSortNames (es.map (·.1))
noncomputable def iFreeNamesFS : Fsp := { fid := 31, ps := [⟨true, .base .expr⟩], rs := [⟨false, .list (.base .str)⟩], ex := true, fn := fun x => iFreeNames x }
noncomputable def iIsCaptured (a : GExpr) (b c : Str) : Option Bool := (walkEvs (siz a + 1) a []).bind fun es => (gd es.length).bind fun _ => some (es.any fun p => p.1 == b && p.2.contains c)
noncomputable def iIsCapturedFS : Fsp := { fid := 55, ps := [⟨true, .base .expr⟩, ⟨false, .base .str⟩, ⟨false, .base .str⟩], rs := [⟨false, .base .bool⟩], ex := true, fn := fun x => iIsCaptured x.1 x.2.1 x.2.2 }
noncomputable def iCopyExprB (riCopyExpr : GExpr → Option (GExpr)) (a : GExpr) : Option (GExpr) :=
 loopD (fun (x1 : Int × Int × Str × (List GExpr) × Int × Int × Str × (List GExpr) × (List GExpr) × Int × Int) =>
  bif (decide (x1.2.2.2.2.2.2.2.2.2.2 < x1.2.2.2.2.2.2.2.2.2.1)) then
   (idx x1.2.2.2.2.2.2.2.2.1 x1.2.2.2.2.2.2.2.2.2.2).bind fun e2 =>
   (riCopyExpr (reExpr e2)).bind fun r3 =>
   (gd (x1.2.2.2.2.2.2.2.1.length + [reExpr r3].length)).bind fun _ =>
   some (.inl (x1.1, x1.2.1, x1.2.2.1, x1.2.2.2.1, x1.2.2.2.2.1, x1.2.2.2.2.2.1, x1.2.2.2.2.2.2.1, x1.2.2.2.2.2.2.2.1 ++ [reExpr r3], x1.2.2.2.2.2.2.2.2.1, x1.2.2.2.2.2.2.2.2.2.1, w64 (x1.2.2.2.2.2.2.2.2.2.2 + 1)))
  else
   some (.inr (GExpr.mk x1.2.2.2.2.1 x1.2.2.2.2.2.1 x1.2.2.2.2.2.2.1 x1.2.2.2.2.2.2.2.1))
 ) (0, 0, [], [], a.kind, a.n, a.text, [], a.args, (a.args.length : Int), 0)
noncomputable def iCopyExprG : Nat → (GExpr → Option (GExpr))
 | 0 => fun _ => none
 | n + 1 => iCopyExprB (iCopyExprG n)
noncomputable def iCopyExpr (a : GExpr) : Option (GExpr) := (iCopyExprG (siz a + 1)) a
noncomputable def iCopyExprFS : Fsp := { fid := 93, ps := [⟨true, .base .expr⟩], rs := [⟨true, .base .expr⟩], ex := true, fn := fun x => iCopyExpr x }
noncomputable def iCopyExprFSN (n : Nat) : Fsp := { fid := 93, ps := [⟨true, .base .expr⟩], rs := [⟨true, .base .expr⟩], ex := true, fn := fun x => (iCopyExprG n) x }
noncomputable def iRenamedB (riRenamed : GExpr → Str → Str → Option (GExpr)) (a : GExpr) (b : Str) (c : Str) : Option (GExpr) :=
 bif (a.kind == 3) then
  bif (a.text == b) then
   bif (a.kind == 7) then
    loopD (fun (x1 : Str × Str × Int × Int × Str × (List GExpr) × Int × Int × Str × (List GExpr) × Bool × (List GExpr) × Int × Int) =>
     bif (decide (x1.2.2.2.2.2.2.2.2.2.2.2.2.2 < x1.2.2.2.2.2.2.2.2.2.2.2.2.1)) then
      (idx x1.2.2.2.2.2.2.2.2.2.2.2.1 x1.2.2.2.2.2.2.2.2.2.2.2.2.2).bind fun e2 =>
      bif x1.2.2.2.2.2.2.2.2.2.2.1 then
       bif (decide (x1.2.2.2.2.2.2.2.2.2.2.2.2.2 > 0)) then
        (iCopyExpr (reExpr e2)).bind fun r3 =>
        (gd (x1.2.2.2.2.2.2.2.2.2.1.length + [reExpr r3].length)).bind fun _ =>
        some (.inl (x1.1, x1.2.1, x1.2.2.1, x1.2.2.2.1, x1.2.2.2.2.1, x1.2.2.2.2.2.1, x1.2.2.2.2.2.2.1, x1.2.2.2.2.2.2.2.1, x1.2.2.2.2.2.2.2.2.1, x1.2.2.2.2.2.2.2.2.2.1 ++ [reExpr r3], x1.2.2.2.2.2.2.2.2.2.2.1, x1.2.2.2.2.2.2.2.2.2.2.2.1, x1.2.2.2.2.2.2.2.2.2.2.2.2.1, w64 (x1.2.2.2.2.2.2.2.2.2.2.2.2.2 + 1)))
       else
        (riRenamed (reExpr e2) x1.1 x1.2.1).bind fun r4 =>
        (gd (x1.2.2.2.2.2.2.2.2.2.1.length + [reExpr r4].length)).bind fun _ =>
        some (.inl (x1.1, x1.2.1, x1.2.2.1, x1.2.2.2.1, x1.2.2.2.2.1, x1.2.2.2.2.2.1, x1.2.2.2.2.2.2.1, x1.2.2.2.2.2.2.2.1, x1.2.2.2.2.2.2.2.2.1, x1.2.2.2.2.2.2.2.2.2.1 ++ [reExpr r4], x1.2.2.2.2.2.2.2.2.2.2.1, x1.2.2.2.2.2.2.2.2.2.2.2.1, x1.2.2.2.2.2.2.2.2.2.2.2.2.1, w64 (x1.2.2.2.2.2.2.2.2.2.2.2.2.2 + 1)))
      else
       (riRenamed (reExpr e2) x1.1 x1.2.1).bind fun r5 =>
       (gd (x1.2.2.2.2.2.2.2.2.2.1.length + [reExpr r5].length)).bind fun _ =>
       some (.inl (x1.1, x1.2.1, x1.2.2.1, x1.2.2.2.1, x1.2.2.2.2.1, x1.2.2.2.2.2.1, x1.2.2.2.2.2.2.1, x1.2.2.2.2.2.2.2.1, x1.2.2.2.2.2.2.2.2.1, x1.2.2.2.2.2.2.2.2.2.1 ++ [reExpr r5], x1.2.2.2.2.2.2.2.2.2.2.1, x1.2.2.2.2.2.2.2.2.2.2.2.1, x1.2.2.2.2.2.2.2.2.2.2.2.2.1, w64 (x1.2.2.2.2.2.2.2.2.2.2.2.2.2 + 1)))
     else
      some (.inr (GExpr.mk x1.2.2.2.2.2.2.1 x1.2.2.2.2.2.2.2.1 x1.2.2.2.2.2.2.2.2.1 x1.2.2.2.2.2.2.2.2.2.1))
    ) (b, c, 0, 0, [], [], a.kind, a.n, c, [], (a.text == b), a.args, (a.args.length : Int), 0)
   else
   bif (a.kind == 9) then
    loopD (fun (x6 : Str × Str × Int × Int × Str × (List GExpr) × Int × Int × Str × (List GExpr) × Bool × (List GExpr) × Int × Int) =>
     bif (decide (x6.2.2.2.2.2.2.2.2.2.2.2.2.2 < x6.2.2.2.2.2.2.2.2.2.2.2.2.1)) then
      (idx x6.2.2.2.2.2.2.2.2.2.2.2.1 x6.2.2.2.2.2.2.2.2.2.2.2.2.2).bind fun e7 =>
      bif x6.2.2.2.2.2.2.2.2.2.2.1 then
       bif (decide (x6.2.2.2.2.2.2.2.2.2.2.2.2.2 > 0)) then
        (iCopyExpr (reExpr e7)).bind fun r8 =>
        (gd (x6.2.2.2.2.2.2.2.2.2.1.length + [reExpr r8].length)).bind fun _ =>
        some (.inl (x6.1, x6.2.1, x6.2.2.1, x6.2.2.2.1, x6.2.2.2.2.1, x6.2.2.2.2.2.1, x6.2.2.2.2.2.2.1, x6.2.2.2.2.2.2.2.1, x6.2.2.2.2.2.2.2.2.1, x6.2.2.2.2.2.2.2.2.2.1 ++ [reExpr r8], x6.2.2.2.2.2.2.2.2.2.2.1, x6.2.2.2.2.2.2.2.2.2.2.2.1, x6.2.2.2.2.2.2.2.2.2.2.2.2.1, w64 (x6.2.2.2.2.2.2.2.2.2.2.2.2.2 + 1)))
       else
        (riRenamed (reExpr e7) x6.1 x6.2.1).bind fun r9 =>
        (gd (x6.2.2.2.2.2.2.2.2.2.1.length + [reExpr r9].length)).bind fun _ =>
        some (.inl (x6.1, x6.2.1, x6.2.2.1, x6.2.2.2.1, x6.2.2.2.2.1, x6.2.2.2.2.2.1, x6.2.2.2.2.2.2.1, x6.2.2.2.2.2.2.2.1, x6.2.2.2.2.2.2.2.2.1, x6.2.2.2.2.2.2.2.2.2.1 ++ [reExpr r9], x6.2.2.2.2.2.2.2.2.2.2.1, x6.2.2.2.2.2.2.2.2.2.2.2.1, x6.2.2.2.2.2.2.2.2.2.2.2.2.1, w64 (x6.2.2.2.2.2.2.2.2.2.2.2.2.2 + 1)))
      else
       (riRenamed (reExpr e7) x6.1 x6.2.1).bind fun r10 =>
       (gd (x6.2.2.2.2.2.2.2.2.2.1.length + [reExpr r10].length)).bind fun _ =>
       some (.inl (x6.1, x6.2.1, x6.2.2.1, x6.2.2.2.1, x6.2.2.2.2.1, x6.2.2.2.2.2.1, x6.2.2.2.2.2.2.1, x6.2.2.2.2.2.2.2.1, x6.2.2.2.2.2.2.2.2.1, x6.2.2.2.2.2.2.2.2.2.1 ++ [reExpr r10], x6.2.2.2.2.2.2.2.2.2.2.1, x6.2.2.2.2.2.2.2.2.2.2.2.1, x6.2.2.2.2.2.2.2.2.2.2.2.2.1, w64 (x6.2.2.2.2.2.2.2.2.2.2.2.2.2 + 1)))
     else
      some (.inr (GExpr.mk x6.2.2.2.2.2.2.1 x6.2.2.2.2.2.2.2.1 x6.2.2.2.2.2.2.2.2.1 x6.2.2.2.2.2.2.2.2.2.1))
    ) (b, c, 0, 0, [], [], a.kind, a.n, c, [], (a.text == b), a.args, (a.args.length : Int), 0)
   else
   loopD (fun (x11 : Str × Str × Int × Int × Str × (List GExpr) × Int × Int × Str × (List GExpr) × Bool × (List GExpr) × Int × Int) =>
    bif (decide (x11.2.2.2.2.2.2.2.2.2.2.2.2.2 < x11.2.2.2.2.2.2.2.2.2.2.2.2.1)) then
     (idx x11.2.2.2.2.2.2.2.2.2.2.2.1 x11.2.2.2.2.2.2.2.2.2.2.2.2.2).bind fun e12 =>
     bif x11.2.2.2.2.2.2.2.2.2.2.1 then
      bif (decide (x11.2.2.2.2.2.2.2.2.2.2.2.2.2 > 0)) then
       (iCopyExpr (reExpr e12)).bind fun r13 =>
       (gd (x11.2.2.2.2.2.2.2.2.2.1.length + [reExpr r13].length)).bind fun _ =>
       some (.inl (x11.1, x11.2.1, x11.2.2.1, x11.2.2.2.1, x11.2.2.2.2.1, x11.2.2.2.2.2.1, x11.2.2.2.2.2.2.1, x11.2.2.2.2.2.2.2.1, x11.2.2.2.2.2.2.2.2.1, x11.2.2.2.2.2.2.2.2.2.1 ++ [reExpr r13], x11.2.2.2.2.2.2.2.2.2.2.1, x11.2.2.2.2.2.2.2.2.2.2.2.1, x11.2.2.2.2.2.2.2.2.2.2.2.2.1, w64 (x11.2.2.2.2.2.2.2.2.2.2.2.2.2 + 1)))
      else
       (riRenamed (reExpr e12) x11.1 x11.2.1).bind fun r14 =>
       (gd (x11.2.2.2.2.2.2.2.2.2.1.length + [reExpr r14].length)).bind fun _ =>
       some (.inl (x11.1, x11.2.1, x11.2.2.1, x11.2.2.2.1, x11.2.2.2.2.1, x11.2.2.2.2.2.1, x11.2.2.2.2.2.2.1, x11.2.2.2.2.2.2.2.1, x11.2.2.2.2.2.2.2.2.1, x11.2.2.2.2.2.2.2.2.2.1 ++ [reExpr r14], x11.2.2.2.2.2.2.2.2.2.2.1, x11.2.2.2.2.2.2.2.2.2.2.2.1, x11.2.2.2.2.2.2.2.2.2.2.2.2.1, w64 (x11.2.2.2.2.2.2.2.2.2.2.2.2.2 + 1)))
     else
      (riRenamed (reExpr e12) x11.1 x11.2.1).bind fun r15 =>
      (gd (x11.2.2.2.2.2.2.2.2.2.1.length + [reExpr r15].length)).bind fun _ =>
      some (.inl (x11.1, x11.2.1, x11.2.2.1, x11.2.2.2.1, x11.2.2.2.2.1, x11.2.2.2.2.2.1, x11.2.2.2.2.2.2.1, x11.2.2.2.2.2.2.2.1, x11.2.2.2.2.2.2.2.2.1, x11.2.2.2.2.2.2.2.2.2.1 ++ [reExpr r15], x11.2.2.2.2.2.2.2.2.2.2.1, x11.2.2.2.2.2.2.2.2.2.2.2.1, x11.2.2.2.2.2.2.2.2.2.2.2.2.1, w64 (x11.2.2.2.2.2.2.2.2.2.2.2.2.2 + 1)))
    else
     some (.inr (GExpr.mk x11.2.2.2.2.2.2.1 x11.2.2.2.2.2.2.2.1 x11.2.2.2.2.2.2.2.2.1 x11.2.2.2.2.2.2.2.2.2.1))
   ) (b, c, 0, 0, [], [], a.kind, a.n, c, [], false, a.args, (a.args.length : Int), 0)
  else
  bif (a.kind == 7) then
   loopD (fun (x16 : Str × Str × Int × Int × Str × (List GExpr) × Int × Int × Str × (List GExpr) × Bool × (List GExpr) × Int × Int) =>
    bif (decide (x16.2.2.2.2.2.2.2.2.2.2.2.2.2 < x16.2.2.2.2.2.2.2.2.2.2.2.2.1)) then
     (idx x16.2.2.2.2.2.2.2.2.2.2.2.1 x16.2.2.2.2.2.2.2.2.2.2.2.2.2).bind fun e17 =>
     bif x16.2.2.2.2.2.2.2.2.2.2.1 then
      bif (decide (x16.2.2.2.2.2.2.2.2.2.2.2.2.2 > 0)) then
       (iCopyExpr (reExpr e17)).bind fun r18 =>
       (gd (x16.2.2.2.2.2.2.2.2.2.1.length + [reExpr r18].length)).bind fun _ =>
       some (.inl (x16.1, x16.2.1, x16.2.2.1, x16.2.2.2.1, x16.2.2.2.2.1, x16.2.2.2.2.2.1, x16.2.2.2.2.2.2.1, x16.2.2.2.2.2.2.2.1, x16.2.2.2.2.2.2.2.2.1, x16.2.2.2.2.2.2.2.2.2.1 ++ [reExpr r18], x16.2.2.2.2.2.2.2.2.2.2.1, x16.2.2.2.2.2.2.2.2.2.2.2.1, x16.2.2.2.2.2.2.2.2.2.2.2.2.1, w64 (x16.2.2.2.2.2.2.2.2.2.2.2.2.2 + 1)))
      else
       (riRenamed (reExpr e17) x16.1 x16.2.1).bind fun r19 =>
       (gd (x16.2.2.2.2.2.2.2.2.2.1.length + [reExpr r19].length)).bind fun _ =>
       some (.inl (x16.1, x16.2.1, x16.2.2.1, x16.2.2.2.1, x16.2.2.2.2.1, x16.2.2.2.2.2.1, x16.2.2.2.2.2.2.1, x16.2.2.2.2.2.2.2.1, x16.2.2.2.2.2.2.2.2.1, x16.2.2.2.2.2.2.2.2.2.1 ++ [reExpr r19], x16.2.2.2.2.2.2.2.2.2.2.1, x16.2.2.2.2.2.2.2.2.2.2.2.1, x16.2.2.2.2.2.2.2.2.2.2.2.2.1, w64 (x16.2.2.2.2.2.2.2.2.2.2.2.2.2 + 1)))
     else
      (riRenamed (reExpr e17) x16.1 x16.2.1).bind fun r20 =>
      (gd (x16.2.2.2.2.2.2.2.2.2.1.length + [reExpr r20].length)).bind fun _ =>
      some (.inl (x16.1, x16.2.1, x16.2.2.1, x16.2.2.2.1, x16.2.2.2.2.1, x16.2.2.2.2.2.1, x16.2.2.2.2.2.2.1, x16.2.2.2.2.2.2.2.1, x16.2.2.2.2.2.2.2.2.1, x16.2.2.2.2.2.2.2.2.2.1 ++ [reExpr r20], x16.2.2.2.2.2.2.2.2.2.2.1, x16.2.2.2.2.2.2.2.2.2.2.2.1, x16.2.2.2.2.2.2.2.2.2.2.2.2.1, w64 (x16.2.2.2.2.2.2.2.2.2.2.2.2.2 + 1)))
    else
     some (.inr (GExpr.mk x16.2.2.2.2.2.2.1 x16.2.2.2.2.2.2.2.1 x16.2.2.2.2.2.2.2.2.1 x16.2.2.2.2.2.2.2.2.2.1))
   ) (b, c, 0, 0, [], [], a.kind, a.n, a.text, [], (a.text == b), a.args, (a.args.length : Int), 0)
  else
  bif (a.kind == 9) then
   loopD (fun (x21 : Str × Str × Int × Int × Str × (List GExpr) × Int × Int × Str × (List GExpr) × Bool × (List GExpr) × Int × Int) =>
    bif (decide (x21.2.2.2.2.2.2.2.2.2.2.2.2.2 < x21.2.2.2.2.2.2.2.2.2.2.2.2.1)) then
     (idx x21.2.2.2.2.2.2.2.2.2.2.2.1 x21.2.2.2.2.2.2.2.2.2.2.2.2.2).bind fun e22 =>
     bif x21.2.2.2.2.2.2.2.2.2.2.1 then
      bif (decide (x21.2.2.2.2.2.2.2.2.2.2.2.2.2 > 0)) then
       (iCopyExpr (reExpr e22)).bind fun r23 =>
       (gd (x21.2.2.2.2.2.2.2.2.2.1.length + [reExpr r23].length)).bind fun _ =>
       some (.inl (x21.1, x21.2.1, x21.2.2.1, x21.2.2.2.1, x21.2.2.2.2.1, x21.2.2.2.2.2.1, x21.2.2.2.2.2.2.1, x21.2.2.2.2.2.2.2.1, x21.2.2.2.2.2.2.2.2.1, x21.2.2.2.2.2.2.2.2.2.1 ++ [reExpr r23], x21.2.2.2.2.2.2.2.2.2.2.1, x21.2.2.2.2.2.2.2.2.2.2.2.1, x21.2.2.2.2.2.2.2.2.2.2.2.2.1, w64 (x21.2.2.2.2.2.2.2.2.2.2.2.2.2 + 1)))
      else
       (riRenamed (reExpr e22) x21.1 x21.2.1).bind fun r24 =>
       (gd (x21.2.2.2.2.2.2.2.2.2.1.length + [reExpr r24].length)).bind fun _ =>
       some (.inl (x21.1, x21.2.1, x21.2.2.1, x21.2.2.2.1, x21.2.2.2.2.1, x21.2.2.2.2.2.1, x21.2.2.2.2.2.2.1, x21.2.2.2.2.2.2.2.1, x21.2.2.2.2.2.2.2.2.1, x21.2.2.2.2.2.2.2.2.2.1 ++ [reExpr r24], x21.2.2.2.2.2.2.2.2.2.2.1, x21.2.2.2.2.2.2.2.2.2.2.2.1, x21.2.2.2.2.2.2.2.2.2.2.2.2.1, w64 (x21.2.2.2.2.2.2.2.2.2.2.2.2.2 + 1)))
     else
      (riRenamed (reExpr e22) x21.1 x21.2.1).bind fun r25 =>
      (gd (x21.2.2.2.2.2.2.2.2.2.1.length + [reExpr r25].length)).bind fun _ =>
      some (.inl (x21.1, x21.2.1, x21.2.2.1, x21.2.2.2.1, x21.2.2.2.2.1, x21.2.2.2.2.2.1, x21.2.2.2.2.2.2.1, x21.2.2.2.2.2.2.2.1, x21.2.2.2.2.2.2.2.2.1, x21.2.2.2.2.2.2.2.2.2.1 ++ [reExpr r25], x21.2.2.2.2.2.2.2.2.2.2.1, x21.2.2.2.2.2.2.2.2.2.2.2.1, x21.2.2.2.2.2.2.2.2.2.2.2.2.1, w64 (x21.2.2.2.2.2.2.2.2.2.2.2.2.2 + 1)))
    else
     some (.inr (GExpr.mk x21.2.2.2.2.2.2.1 x21.2.2.2.2.2.2.2.1 x21.2.2.2.2.2.2.2.2.1 x21.2.2.2.2.2.2.2.2.2.1))
   ) (b, c, 0, 0, [], [], a.kind, a.n, a.text, [], (a.text == b), a.args, (a.args.length : Int), 0)
  else
  loopD (fun (x26 : Str × Str × Int × Int × Str × (List GExpr) × Int × Int × Str × (List GExpr) × Bool × (List GExpr) × Int × Int) =>
   bif (decide (x26.2.2.2.2.2.2.2.2.2.2.2.2.2 < x26.2.2.2.2.2.2.2.2.2.2.2.2.1)) then
    (idx x26.2.2.2.2.2.2.2.2.2.2.2.1 x26.2.2.2.2.2.2.2.2.2.2.2.2.2).bind fun e27 =>
    bif x26.2.2.2.2.2.2.2.2.2.2.1 then
     bif (decide (x26.2.2.2.2.2.2.2.2.2.2.2.2.2 > 0)) then
      (iCopyExpr (reExpr e27)).bind fun r28 =>
      (gd (x26.2.2.2.2.2.2.2.2.2.1.length + [reExpr r28].length)).bind fun _ =>
      some (.inl (x26.1, x26.2.1, x26.2.2.1, x26.2.2.2.1, x26.2.2.2.2.1, x26.2.2.2.2.2.1, x26.2.2.2.2.2.2.1, x26.2.2.2.2.2.2.2.1, x26.2.2.2.2.2.2.2.2.1, x26.2.2.2.2.2.2.2.2.2.1 ++ [reExpr r28], x26.2.2.2.2.2.2.2.2.2.2.1, x26.2.2.2.2.2.2.2.2.2.2.2.1, x26.2.2.2.2.2.2.2.2.2.2.2.2.1, w64 (x26.2.2.2.2.2.2.2.2.2.2.2.2.2 + 1)))
     else
      (riRenamed (reExpr e27) x26.1 x26.2.1).bind fun r29 =>
      (gd (x26.2.2.2.2.2.2.2.2.2.1.length + [reExpr r29].length)).bind fun _ =>
      some (.inl (x26.1, x26.2.1, x26.2.2.1, x26.2.2.2.1, x26.2.2.2.2.1, x26.2.2.2.2.2.1, x26.2.2.2.2.2.2.1, x26.2.2.2.2.2.2.2.1, x26.2.2.2.2.2.2.2.2.1, x26.2.2.2.2.2.2.2.2.2.1 ++ [reExpr r29], x26.2.2.2.2.2.2.2.2.2.2.1, x26.2.2.2.2.2.2.2.2.2.2.2.1, x26.2.2.2.2.2.2.2.2.2.2.2.2.1, w64 (x26.2.2.2.2.2.2.2.2.2.2.2.2.2 + 1)))
    else
     (riRenamed (reExpr e27) x26.1 x26.2.1).bind fun r30 =>
     (gd (x26.2.2.2.2.2.2.2.2.2.1.length + [reExpr r30].length)).bind fun _ =>
     some (.inl (x26.1, x26.2.1, x26.2.2.1, x26.2.2.2.1, x26.2.2.2.2.1, x26.2.2.2.2.2.1, x26.2.2.2.2.2.2.1, x26.2.2.2.2.2.2.2.1, x26.2.2.2.2.2.2.2.2.1, x26.2.2.2.2.2.2.2.2.2.1 ++ [reExpr r30], x26.2.2.2.2.2.2.2.2.2.2.1, x26.2.2.2.2.2.2.2.2.2.2.2.1, x26.2.2.2.2.2.2.2.2.2.2.2.2.1, w64 (x26.2.2.2.2.2.2.2.2.2.2.2.2.2 + 1)))
   else
    some (.inr (GExpr.mk x26.2.2.2.2.2.2.1 x26.2.2.2.2.2.2.2.1 x26.2.2.2.2.2.2.2.2.1 x26.2.2.2.2.2.2.2.2.2.1))
  ) (b, c, 0, 0, [], [], a.kind, a.n, a.text, [], false, a.args, (a.args.length : Int), 0)
 else
 bif (a.kind == 7) then
  loopD (fun (x31 : Str × Str × Int × Int × Str × (List GExpr) × Int × Int × Str × (List GExpr) × Bool × (List GExpr) × Int × Int) =>
   bif (decide (x31.2.2.2.2.2.2.2.2.2.2.2.2.2 < x31.2.2.2.2.2.2.2.2.2.2.2.2.1)) then
    (idx x31.2.2.2.2.2.2.2.2.2.2.2.1 x31.2.2.2.2.2.2.2.2.2.2.2.2.2).bind fun e32 =>
    bif x31.2.2.2.2.2.2.2.2.2.2.1 then
     bif (decide (x31.2.2.2.2.2.2.2.2.2.2.2.2.2 > 0)) then
      (iCopyExpr (reExpr e32)).bind fun r33 =>
      (gd (x31.2.2.2.2.2.2.2.2.2.1.length + [reExpr r33].length)).bind fun _ =>
      some (.inl (x31.1, x31.2.1, x31.2.2.1, x31.2.2.2.1, x31.2.2.2.2.1, x31.2.2.2.2.2.1, x31.2.2.2.2.2.2.1, x31.2.2.2.2.2.2.2.1, x31.2.2.2.2.2.2.2.2.1, x31.2.2.2.2.2.2.2.2.2.1 ++ [reExpr r33], x31.2.2.2.2.2.2.2.2.2.2.1, x31.2.2.2.2.2.2.2.2.2.2.2.1, x31.2.2.2.2.2.2.2.2.2.2.2.2.1, w64 (x31.2.2.2.2.2.2.2.2.2.2.2.2.2 + 1)))
     else
      (riRenamed (reExpr e32) x31.1 x31.2.1).bind fun r34 =>
      (gd (x31.2.2.2.2.2.2.2.2.2.1.length + [reExpr r34].length)).bind fun _ =>
      some (.inl (x31.1, x31.2.1, x31.2.2.1, x31.2.2.2.1, x31.2.2.2.2.1, x31.2.2.2.2.2.1, x31.2.2.2.2.2.2.1, x31.2.2.2.2.2.2.2.1, x31.2.2.2.2.2.2.2.2.1, x31.2.2.2.2.2.2.2.2.2.1 ++ [reExpr r34], x31.2.2.2.2.2.2.2.2.2.2.1, x31.2.2.2.2.2.2.2.2.2.2.2.1, x31.2.2.2.2.2.2.2.2.2.2.2.2.1, w64 (x31.2.2.2.2.2.2.2.2.2.2.2.2.2 + 1)))
    else
     (riRenamed (reExpr e32) x31.1 x31.2.1).bind fun r35 =>
     (gd (x31.2.2.2.2.2.2.2.2.2.1.length + [reExpr r35].length)).bind fun _ =>
     some (.inl (x31.1, x31.2.1, x31.2.2.1, x31.2.2.2.1, x31.2.2.2.2.1, x31.2.2.2.2.2.1, x31.2.2.2.2.2.2.1, x31.2.2.2.2.2.2.2.1, x31.2.2.2.2.2.2.2.2.1, x31.2.2.2.2.2.2.2.2.2.1 ++ [reExpr r35], x31.2.2.2.2.2.2.2.2.2.2.1, x31.2.2.2.2.2.2.2.2.2.2.2.1, x31.2.2.2.2.2.2.2.2.2.2.2.2.1, w64 (x31.2.2.2.2.2.2.2.2.2.2.2.2.2 + 1)))
   else
    some (.inr (GExpr.mk x31.2.2.2.2.2.2.1 x31.2.2.2.2.2.2.2.1 x31.2.2.2.2.2.2.2.2.1 x31.2.2.2.2.2.2.2.2.2.1))
  ) (b, c, 0, 0, [], [], a.kind, a.n, a.text, [], (a.text == b), a.args, (a.args.length : Int), 0)
 else
 bif (a.kind == 9) then
  loopD (fun (x36 : Str × Str × Int × Int × Str × (List GExpr) × Int × Int × Str × (List GExpr) × Bool × (List GExpr) × Int × Int) =>
   bif (decide (x36.2.2.2.2.2.2.2.2.2.2.2.2.2 < x36.2.2.2.2.2.2.2.2.2.2.2.2.1)) then
    (idx x36.2.2.2.2.2.2.2.2.2.2.2.1 x36.2.2.2.2.2.2.2.2.2.2.2.2.2).bind fun e37 =>
    bif x36.2.2.2.2.2.2.2.2.2.2.1 then
     bif (decide (x36.2.2.2.2.2.2.2.2.2.2.2.2.2 > 0)) then
      (iCopyExpr (reExpr e37)).bind fun r38 =>
      (gd (x36.2.2.2.2.2.2.2.2.2.1.length + [reExpr r38].length)).bind fun _ =>
      some (.inl (x36.1, x36.2.1, x36.2.2.1, x36.2.2.2.1, x36.2.2.2.2.1, x36.2.2.2.2.2.1, x36.2.2.2.2.2.2.1, x36.2.2.2.2.2.2.2.1, x36.2.2.2.2.2.2.2.2.1, x36.2.2.2.2.2.2.2.2.2.1 ++ [reExpr r38], x36.2.2.2.2.2.2.2.2.2.2.1, x36.2.2.2.2.2.2.2.2.2.2.2.1, x36.2.2.2.2.2.2.2.2.2.2.2.2.1, w64 (x36.2.2.2.2.2.2.2.2.2.2.2.2.2 + 1)))
     else
      (riRenamed (reExpr e37) x36.1 x36.2.1).bind fun r39 =>
      (gd (x36.2.2.2.2.2.2.2.2.2.1.length + [reExpr r39].length)).bind fun _ =>
      some (.inl (x36.1, x36.2.1, x36.2.2.1, x36.2.2.2.1, x36.2.2.2.2.1, x36.2.2.2.2.2.1, x36.2.2.2.2.2.2.1, x36.2.2.2.2.2.2.2.1, x36.2.2.2.2.2.2.2.2.1, x36.2.2.2.2.2.2.2.2.2.1 ++ [reExpr r39], x36.2.2.2.2.2.2.2.2.2.2.1, x36.2.2.2.2.2.2.2.2.2.2.2.1, x36.2.2.2.2.2.2.2.2.2.2.2.2.1, w64 (x36.2.2.2.2.2.2.2.2.2.2.2.2.2 + 1)))
    else
     (riRenamed (reExpr e37) x36.1 x36.2.1).bind fun r40 =>
     (gd (x36.2.2.2.2.2.2.2.2.2.1.length + [reExpr r40].length)).bind fun _ =>
     some (.inl (x36.1, x36.2.1, x36.2.2.1, x36.2.2.2.1, x36.2.2.2.2.1, x36.2.2.2.2.2.1, x36.2.2.2.2.2.2.1, x36.2.2.2.2.2.2.2.1, x36.2.2.2.2.2.2.2.2.1, x36.2.2.2.2.2.2.2.2.2.1 ++ [reExpr r40], x36.2.2.2.2.2.2.2.2.2.2.1, x36.2.2.2.2.2.2.2.2.2.2.2.1, x36.2.2.2.2.2.2.2.2.2.2.2.2.1, w64 (x36.2.2.2.2.2.2.2.2.2.2.2.2.2 + 1)))
   else
    some (.inr (GExpr.mk x36.2.2.2.2.2.2.1 x36.2.2.2.2.2.2.2.1 x36.2.2.2.2.2.2.2.2.1 x36.2.2.2.2.2.2.2.2.2.1))
  ) (b, c, 0, 0, [], [], a.kind, a.n, a.text, [], (a.text == b), a.args, (a.args.length : Int), 0)
 else
 loopD (fun (x41 : Str × Str × Int × Int × Str × (List GExpr) × Int × Int × Str × (List GExpr) × Bool × (List GExpr) × Int × Int) =>
  bif (decide (x41.2.2.2.2.2.2.2.2.2.2.2.2.2 < x41.2.2.2.2.2.2.2.2.2.2.2.2.1)) then
   (idx x41.2.2.2.2.2.2.2.2.2.2.2.1 x41.2.2.2.2.2.2.2.2.2.2.2.2.2).bind fun e42 =>
   bif x41.2.2.2.2.2.2.2.2.2.2.1 then
    bif (decide (x41.2.2.2.2.2.2.2.2.2.2.2.2.2 > 0)) then
     (iCopyExpr (reExpr e42)).bind fun r43 =>
     (gd (x41.2.2.2.2.2.2.2.2.2.1.length + [reExpr r43].length)).bind fun _ =>
     some (.inl (x41.1, x41.2.1, x41.2.2.1, x41.2.2.2.1, x41.2.2.2.2.1, x41.2.2.2.2.2.1, x41.2.2.2.2.2.2.1, x41.2.2.2.2.2.2.2.1, x41.2.2.2.2.2.2.2.2.1, x41.2.2.2.2.2.2.2.2.2.1 ++ [reExpr r43], x41.2.2.2.2.2.2.2.2.2.2.1, x41.2.2.2.2.2.2.2.2.2.2.2.1, x41.2.2.2.2.2.2.2.2.2.2.2.2.1, w64 (x41.2.2.2.2.2.2.2.2.2.2.2.2.2 + 1)))
    else
     (riRenamed (reExpr e42) x41.1 x41.2.1).bind fun r44 =>
     (gd (x41.2.2.2.2.2.2.2.2.2.1.length + [reExpr r44].length)).bind fun _ =>
     some (.inl (x41.1, x41.2.1, x41.2.2.1, x41.2.2.2.1, x41.2.2.2.2.1, x41.2.2.2.2.2.1, x41.2.2.2.2.2.2.1, x41.2.2.2.2.2.2.2.1, x41.2.2.2.2.2.2.2.2.1, x41.2.2.2.2.2.2.2.2.2.1 ++ [reExpr r44], x41.2.2.2.2.2.2.2.2.2.2.1, x41.2.2.2.2.2.2.2.2.2.2.2.1, x41.2.2.2.2.2.2.2.2.2.2.2.2.1, w64 (x41.2.2.2.2.2.2.2.2.2.2.2.2.2 + 1)))
   else
    (riRenamed (reExpr e42) x41.1 x41.2.1).bind fun r45 =>
    (gd (x41.2.2.2.2.2.2.2.2.2.1.length + [reExpr r45].length)).bind fun _ =>
    some (.inl (x41.1, x41.2.1, x41.2.2.1, x41.2.2.2.1, x41.2.2.2.2.1, x41.2.2.2.2.2.1, x41.2.2.2.2.2.2.1, x41.2.2.2.2.2.2.2.1, x41.2.2.2.2.2.2.2.2.1, x41.2.2.2.2.2.2.2.2.2.1 ++ [reExpr r45], x41.2.2.2.2.2.2.2.2.2.2.1, x41.2.2.2.2.2.2.2.2.2.2.2.1, x41.2.2.2.2.2.2.2.2.2.2.2.2.1, w64 (x41.2.2.2.2.2.2.2.2.2.2.2.2.2 + 1)))
  else
   some (.inr (GExpr.mk x41.2.2.2.2.2.2.1 x41.2.2.2.2.2.2.2.1 x41.2.2.2.2.2.2.2.2.1 x41.2.2.2.2.2.2.2.2.2.1))
 ) (b, c, 0, 0, [], [], a.kind, a.n, a.text, [], false, a.args, (a.args.length : Int), 0)
noncomputable def iRenamedG : Nat → (GExpr → Str → Str → Option (GExpr))
 | 0 => fun _ _ _ => none
 | n + 1 => iRenamedB (iRenamedG n)
noncomputable def iRenamed (a : GExpr) (b : Str) (c : Str) : Option (GExpr) := (iRenamedG (siz a + 1)) a b c
noncomputable def iRenamedFS : Fsp := { fid := 56, ps := [⟨true, .base .expr⟩, ⟨false, .base .str⟩, ⟨false, .base .str⟩], rs := [⟨true, .base .expr⟩], ex := true, fn := fun x => iRenamed x.1 x.2.1 x.2.2 }
noncomputable def iRenamedFSN (n : Nat) : Fsp := { fid := 56, ps := [⟨true, .base .expr⟩, ⟨false, .base .str⟩, ⟨false, .base .str⟩], rs := [⟨true, .base .expr⟩], ex := true, fn := fun x => (iRenamedG n) x.1 x.2.1 x.2.2 }
noncomputable def iRenameFree (a : GExpr) (b : Str) (c : Str) : Option (GExpr × Bool) :=
 (iIsValidExpr (reExpr a)).bind fun r1 =>
 bif (!r1) then
  some (GExpr.mk 0 0 [] [], false)
 else
 (iIsValidName b).bind fun r2 =>
 bif (!r2) then
  some (GExpr.mk 0 0 [] [], false)
 else
 (iIsValidName c).bind fun r3 =>
 bif (!r3) then
  some (GExpr.mk 0 0 [] [], false)
 else
  (iIsCaptured (reExpr a) b c).bind fun r4 =>
  bif r4 then
   some (GExpr.mk 0 0 [] [], false)
  else
   (iRenamed (reExpr a) b c).bind fun r5 =>
   some (reExpr r5, true)
noncomputable def iRenameFreeFS : Fsp := { fid := 32, ps := [⟨true, .base .expr⟩, ⟨false, .base .str⟩, ⟨false, .base .str⟩], rs := [⟨true, .base .expr⟩, ⟨false, .base .bool⟩], ex := true, fn := fun x => iRenameFree x.1 x.2.1 x.2.2 }
noncomputable def libItoaFS : Fsp := { fid := 130, ps := [⟨false, .base .int⟩], rs := [⟨false, .base .str⟩], ex := true, fn := fun x => libItoa x }
noncomputable def iFormatInt (a : Int) : Option (Str) :=
 (libItoa a).bind fun r1 =>
 some (r1)
noncomputable def iFormatIntFS : Fsp := { fid := 94, ps := [⟨false, .base .int⟩], rs := [⟨false, .base .str⟩], ex := true, fn := fun x => iFormatInt x }
noncomputable def libJoinFS : Fsp := { fid := 147, ps := [⟨false, .list (.base .str)⟩, ⟨false, .base .str⟩], rs := [⟨false, .base .str⟩], ex := true, fn := fun x => libJoin x.1 x.2 }
noncomputable def iJoin (a : List Str) (b : Str) : Option (Str) :=
 (libJoin a b).bind fun r1 =>
 some (r1)
noncomputable def iJoinFS : Fsp := { fid := 131, ps := [⟨false, .list (.base .str)⟩, ⟨false, .base .str⟩], rs := [⟨false, .base .str⟩], ex := true, fn := fun x => iJoin x.1 x.2 }
noncomputable def iLevelOf (a : GExpr) : Option (Int) :=
 bif (a.kind == 7) then
  some (0)
 else
 bif (a.kind == 8) then
  some (0)
 else
 bif (a.kind == 9) then
  some (0)
 else
 bif (a.kind == 6) then
  bif (a.n == 4) then
   some (1)
  else
  bif (a.n == 5) then
   some (1)
  else
   bif (a.n == 1) then
    some (2)
   else
    bif (a.n == 2) then
     some (2)
    else
     bif (a.n == 3) then
      some (3)
     else
      some (4)
 else
  some (4)
noncomputable def iLevelOfFS : Fsp := { fid := 96, ps := [⟨true, .base .expr⟩], rs := [⟨false, .base .int⟩], ex := true, fn := fun x => iLevelOf x }
noncomputable def iSourceB (riSource : GExpr → Option (Str)) (riSources : (List GExpr) → Option (Str)) (riEnclosed : GExpr → Int → Option (Str)) (a : GExpr) : Option (Str) :=
 bif (a.kind == 1) then
  (iFormatInt a.n).bind fun r1 =>
  some (r1)
 else
 bif (a.kind == 2) then
  (gd ([34].length + a.text.length)).bind fun _ =>
  (gd (([34] ++ a.text).length + [34].length)).bind fun _ =>
  some (([34] ++ a.text) ++ [34])
 else
 bif (a.kind == 3) then
  some (a.text)
 else
 bif (a.kind == 4) then
  (riSources a.args).bind fun r2 =>
  (gd ([91].length + r2.length)).bind fun _ =>
  (gd (([91] ++ r2).length + [93].length)).bind fun _ =>
  some (([91] ++ r2) ++ [93])
 else
 bif (a.kind == 5) then
  (gd (a.text.length + [40].length)).bind fun _ =>
  (riSources a.args).bind fun r3 =>
  (gd ((a.text ++ [40]).length + r3.length)).bind fun _ =>
  (gd (((a.text ++ [40]) ++ r3).length + [41].length)).bind fun _ =>
  some (((a.text ++ [40]) ++ r3) ++ [41])
 else
 bif (a.kind == 7) then
  (gd ([108, 101, 116, 32].length + a.text.length)).bind fun _ =>
  (gd (([108, 101, 116, 32] ++ a.text).length + [32, 61, 32].length)).bind fun _ =>
  (idx a.args 0).bind fun e4 =>
  (riSource (reExpr e4)).bind fun r5 =>
  (gd ((([108, 101, 116, 32] ++ a.text) ++ [32, 61, 32]).length + r5.length)).bind fun _ =>
  (gd (((([108, 101, 116, 32] ++ a.text) ++ [32, 61, 32]) ++ r5).length + [32, 105, 110, 32].length)).bind fun _ =>
  (idx a.args 1).bind fun e6 =>
  (riSource (reExpr e6)).bind fun r7 =>
  (gd ((((([108, 101, 116, 32] ++ a.text) ++ [32, 61, 32]) ++ r5) ++ [32, 105, 110, 32]).length + r7.length)).bind fun _ =>
  some ((((([108, 101, 116, 32] ++ a.text) ++ [32, 61, 32]) ++ r5) ++ [32, 105, 110, 32]) ++ r7)
 else
 bif (a.kind == 8) then
  (idx a.args 0).bind fun e8 =>
  (riSource (reExpr e8)).bind fun r9 =>
  (gd ([105, 102, 32].length + r9.length)).bind fun _ =>
  (gd (([105, 102, 32] ++ r9).length + [32, 116, 104, 101, 110, 32].length)).bind fun _ =>
  (idx a.args 1).bind fun e10 =>
  (riSource (reExpr e10)).bind fun r11 =>
  (gd ((([105, 102, 32] ++ r9) ++ [32, 116, 104, 101, 110, 32]).length + r11.length)).bind fun _ =>
  (gd (((([105, 102, 32] ++ r9) ++ [32, 116, 104, 101, 110, 32]) ++ r11).length + [32, 101, 108, 115, 101, 32].length)).bind fun _ =>
  (idx a.args 2).bind fun e12 =>
  (riSource (reExpr e12)).bind fun r13 =>
  (gd ((((([105, 102, 32] ++ r9) ++ [32, 116, 104, 101, 110, 32]) ++ r11) ++ [32, 101, 108, 115, 101, 32]).length + r13.length)).bind fun _ =>
  some ((((([105, 102, 32] ++ r9) ++ [32, 116, 104, 101, 110, 32]) ++ r11) ++ [32, 101, 108, 115, 101, 32]) ++ r13)
 else
 bif (a.kind == 9) then
  (gd ([102, 111, 114, 32].length + a.text.length)).bind fun _ =>
  (gd (([102, 111, 114, 32] ++ a.text).length + [32, 105, 110, 32].length)).bind fun _ =>
  (idx a.args 0).bind fun e14 =>
  (riSource (reExpr e14)).bind fun r15 =>
  (gd ((([102, 111, 114, 32] ++ a.text) ++ [32, 105, 110, 32]).length + r15.length)).bind fun _ =>
  (gd (((([102, 111, 114, 32] ++ a.text) ++ [32, 105, 110, 32]) ++ r15).length + [32, 100, 111, 32].length)).bind fun _ =>
  (idx a.args 1).bind fun e16 =>
  (riSource (reExpr e16)).bind fun r17 =>
  (gd ((((([102, 111, 114, 32] ++ a.text) ++ [32, 105, 110, 32]) ++ r15) ++ [32, 100, 111, 32]).length + r17.length)).bind fun _ =>
  some ((((([102, 111, 114, 32] ++ a.text) ++ [32, 105, 110, 32]) ++ r15) ++ [32, 100, 111, 32]) ++ r17)
 else
 (iLevelOf (reExpr a)).bind fun r18 =>
 bif (r18 == 1) then
  (idx a.args 0).bind fun e19 =>
  (riEnclosed (reExpr e19) 2).bind fun r20 =>
  (gd (r20.length + [32].length)).bind fun _ =>
  (iOpSymbol a.n).bind fun r21 =>
  (gd ((r20 ++ [32]).length + r21.length)).bind fun _ =>
  (gd (((r20 ++ [32]) ++ r21).length + [32].length)).bind fun _ =>
  (idx a.args 1).bind fun e22 =>
  (riEnclosed (reExpr e22) (w64 (r18 + 1))).bind fun r23 =>
  (gd ((((r20 ++ [32]) ++ r21) ++ [32]).length + r23.length)).bind fun _ =>
  some ((((r20 ++ [32]) ++ r21) ++ [32]) ++ r23)
 else
 (idx a.args 0).bind fun e24 =>
 (riEnclosed (reExpr e24) r18).bind fun r25 =>
 (gd (r25.length + [32].length)).bind fun _ =>
 (iOpSymbol a.n).bind fun r26 =>
 (gd ((r25 ++ [32]).length + r26.length)).bind fun _ =>
 (gd (((r25 ++ [32]) ++ r26).length + [32].length)).bind fun _ =>
 (idx a.args 1).bind fun e27 =>
 (riEnclosed (reExpr e27) (w64 (r18 + 1))).bind fun r28 =>
 (gd ((((r25 ++ [32]) ++ r26) ++ [32]).length + r28.length)).bind fun _ =>
 some ((((r25 ++ [32]) ++ r26) ++ [32]) ++ r28)
noncomputable def iSourcesB (riSource : GExpr → Option (Str)) (riSources : (List GExpr) → Option (Str)) (riEnclosed : GExpr → Int → Option (Str)) (a : List GExpr) : Option (Str) :=
 loopD (fun (x1 : (List Str) × (List GExpr) × Int × Int) =>
  bif (decide (x1.2.2.2 < x1.2.2.1)) then
   (idx x1.2.1 x1.2.2.2).bind fun e2 =>
   (riSource (reExpr e2)).bind fun r3 =>
   (gd (x1.1.length + ([r3] : List Str).length)).bind fun _ =>
   some (.inl (x1.1 ++ ([r3] : List Str), x1.2.1, x1.2.2.1, w64 (x1.2.2.2 + 1)))
  else
   (
    (iJoin x1.1 [44, 32]).bind fun r4 =>
    some (r4)
   ).bind fun r => some (.inr r)
 ) ([], a, (a.length : Int), 0)
noncomputable def iEnclosedB (riSource : GExpr → Option (Str)) (riSources : (List GExpr) → Option (Str)) (riEnclosed : GExpr → Int → Option (Str)) (a : GExpr) (b : Int) : Option (Str) :=
 (riSource (reExpr a)).bind fun r1 =>
 (iLevelOf (reExpr a)).bind fun r2 =>
 bif (decide (r2 < b)) then
  (gd ([40].length + r1.length)).bind fun _ =>
  (gd (([40] ++ r1).length + [41].length)).bind fun _ =>
  some (([40] ++ r1) ++ [41])
 else
  some (r1)
noncomputable def iSourceG : Nat → (GExpr → Option (Str)) × ((List GExpr) → Option (Str)) × (GExpr → Int → Option (Str))
 | 0 => (fun _ => none, fun _ => none, fun _ _ => none)
 | n + 1 => (iSourceB (iSourceG n).1 (iSourceG n).2.1 (iSourceG n).2.2, iSourcesB (iSourceG n).1 (iSourceG n).2.1 (iSourceG n).2.2, iEnclosedB (iSourceG n).1 (iSourceG n).2.1 (iSourceG n).2.2)
noncomputable def iSource (a : GExpr) : Option (Str) := (iSourceG (siz a + 1)).1 a
noncomputable def iSourceFS : Fsp := { fid := 57, ps := [⟨true, .base .expr⟩], rs := [⟨false, .base .str⟩], ex := true, fn := fun x => iSource x }
noncomputable def iSourceFSN (n : Nat) : Fsp := { fid := 57, ps := [⟨true, .base .expr⟩], rs := [⟨false, .base .str⟩], ex := true, fn := fun x => (iSourceG n).1 x }
noncomputable def iSources (a : List GExpr) : Option (Str) := (iSourceG (siz a + 1)).2.1 a
noncomputable def iSourcesFS : Fsp := { fid := 95, ps := [⟨false, .list (.base .expr)⟩], rs := [⟨false, .base .str⟩], ex := true, fn := fun x => iSources x }
noncomputable def iSourcesFSN (n : Nat) : Fsp := { fid := 95, ps := [⟨false, .list (.base .expr)⟩], rs := [⟨false, .base .str⟩], ex := true, fn := fun x => (iSourceG n).2.1 x }
noncomputable def iEnclosed (a : GExpr) (b : Int) : Option (Str) := (iSourceG (siz a + 1)).2.2 a b
noncomputable def iEnclosedFS : Fsp := { fid := 97, ps := [⟨true, .base .expr⟩, ⟨false, .base .int⟩], rs := [⟨false, .base .str⟩], ex := true, fn := fun x => iEnclosed x.1 x.2 }
noncomputable def iEnclosedFSN (n : Nat) : Fsp := { fid := 97, ps := [⟨true, .base .expr⟩, ⟨false, .base .int⟩], rs := [⟨false, .base .str⟩], ex := true, fn := fun x => (iSourceG n).2.2 x.1 x.2 }
noncomputable def iFormatExpr (a : GExpr) : Option (Str) :=
 (iIsValidExpr (reExpr a)).bind fun r1 =>
 bif (!r1) then
  some ([])
 else
  (iSource (reExpr a)).bind fun r2 =>
  some (r2)
noncomputable def iFormatExprFS : Fsp := { fid := 33, ps := [⟨true, .base .expr⟩], rs := [⟨false, .base .str⟩], ex := true, fn := fun x => iFormatExpr x }
noncomputable def iAdaptedCode (a : Str) (b : Str) (c : Str) : Option (Str) :=
 (iParseExpr a).bind fun r1 =>
 bif (decide (r1.2 ≥ 0)) then
  some (a)
 else
 (iFreeNames (reExpr r1.1)).bind fun r2 =>
 (iIndexOf r2 b).bind fun r3 =>
 bif (decide (r3 < 0)) then
  some (a)
 else
  (iRenameFree (reExpr r1.1) b c).bind fun r4 =>
  (iFormatExpr (reExpr r4.1)).bind fun r5 =>
  bif r4.2 then
   bif (decide ((r5.length : Int) ≤ 120)) then
    some (r5)
   else
    some (a)
  else
   some (a)
noncomputable def iAdaptedCodeFS : Fsp := { fid := 17, ps := [⟨false, .base .str⟩, ⟨false, .base .str⟩, ⟨false, .base .str⟩], rs := [⟨false, .base .str⟩], ex := true, fn := fun x => iAdaptedCode x.1 x.2.1 x.2.2 }
noncomputable def iAdaptEdit (a : GEdit) (b : List GOp) : Option (GEdit) :=
 loopD (fun (x1 : Int × Int × Int × Int × Int × Str × Str × Int × Int × Int × Int × Int × Int × Str × Str × Int × (List GOp) × Int × Int) =>
  bif (decide (x1.2.2.2.2.2.2.2.2.2.2.2.2.2.2.2.2.2.2 < x1.2.2.2.2.2.2.2.2.2.2.2.2.2.2.2.2.2.1)) then
   (idx x1.2.2.2.2.2.2.2.2.2.2.2.2.2.2.2.2.1 x1.2.2.2.2.2.2.2.2.2.2.2.2.2.2.2.2.2.2).bind fun e2 =>
   bif (x1.2.2.2.2.2.1 == e2.src) then
    bif (x1.1 == 4) then
     (iAdaptedCode x1.2.2.2.2.2.2.1 e2.src e2.dst).bind fun r3 =>
     some (.inl (x1.1, x1.2.1, x1.2.2.1, x1.2.2.2.1, x1.2.2.2.2.1, e2.dst, r3, x1.2.2.2.2.2.2.2.1, x1.2.2.2.2.2.2.2.2.1, x1.2.2.2.2.2.2.2.2.2.1, x1.2.2.2.2.2.2.2.2.2.2.1, x1.2.2.2.2.2.2.2.2.2.2.2.1, x1.2.2.2.2.2.2.2.2.2.2.2.2.1, x1.2.2.2.2.2.2.2.2.2.2.2.2.2.1, x1.2.2.2.2.2.2.2.2.2.2.2.2.2.2.1, x1.2.2.2.2.2.2.2.2.2.2.2.2.2.2.2.1, x1.2.2.2.2.2.2.2.2.2.2.2.2.2.2.2.2.1, x1.2.2.2.2.2.2.2.2.2.2.2.2.2.2.2.2.2.1, w64 (x1.2.2.2.2.2.2.2.2.2.2.2.2.2.2.2.2.2.2 + 1)))
    else
     bif (x1.1 == 1) then
      bif (x1.2.2.2.2.1 == 2) then
       (iAdaptedCode x1.2.2.2.2.2.2.1 e2.src e2.dst).bind fun r4 =>
       some (.inl (x1.1, x1.2.1, x1.2.2.1, x1.2.2.2.1, x1.2.2.2.2.1, e2.dst, r4, x1.2.2.2.2.2.2.2.1, x1.2.2.2.2.2.2.2.2.1, x1.2.2.2.2.2.2.2.2.2.1, x1.2.2.2.2.2.2.2.2.2.2.1, x1.2.2.2.2.2.2.2.2.2.2.2.1, x1.2.2.2.2.2.2.2.2.2.2.2.2.1, x1.2.2.2.2.2.2.2.2.2.2.2.2.2.1, x1.2.2.2.2.2.2.2.2.2.2.2.2.2.2.1, x1.2.2.2.2.2.2.2.2.2.2.2.2.2.2.2.1, x1.2.2.2.2.2.2.2.2.2.2.2.2.2.2.2.2.1, x1.2.2.2.2.2.2.2.2.2.2.2.2.2.2.2.2.2.1, w64 (x1.2.2.2.2.2.2.2.2.2.2.2.2.2.2.2.2.2.2 + 1)))
      else
       some (.inl (x1.1, x1.2.1, x1.2.2.1, x1.2.2.2.1, x1.2.2.2.2.1, e2.dst, x1.2.2.2.2.2.2.1, x1.2.2.2.2.2.2.2.1, x1.2.2.2.2.2.2.2.2.1, x1.2.2.2.2.2.2.2.2.2.1, x1.2.2.2.2.2.2.2.2.2.2.1, x1.2.2.2.2.2.2.2.2.2.2.2.1, x1.2.2.2.2.2.2.2.2.2.2.2.2.1, x1.2.2.2.2.2.2.2.2.2.2.2.2.2.1, x1.2.2.2.2.2.2.2.2.2.2.2.2.2.2.1, x1.2.2.2.2.2.2.2.2.2.2.2.2.2.2.2.1, x1.2.2.2.2.2.2.2.2.2.2.2.2.2.2.2.2.1, x1.2.2.2.2.2.2.2.2.2.2.2.2.2.2.2.2.2.1, w64 (x1.2.2.2.2.2.2.2.2.2.2.2.2.2.2.2.2.2.2 + 1)))
     else
      some (.inl (x1.1, x1.2.1, x1.2.2.1, x1.2.2.2.1, x1.2.2.2.2.1, e2.dst, x1.2.2.2.2.2.2.1, x1.2.2.2.2.2.2.2.1, x1.2.2.2.2.2.2.2.2.1, x1.2.2.2.2.2.2.2.2.2.1, x1.2.2.2.2.2.2.2.2.2.2.1, x1.2.2.2.2.2.2.2.2.2.2.2.1, x1.2.2.2.2.2.2.2.2.2.2.2.2.1, x1.2.2.2.2.2.2.2.2.2.2.2.2.2.1, x1.2.2.2.2.2.2.2.2.2.2.2.2.2.2.1, x1.2.2.2.2.2.2.2.2.2.2.2.2.2.2.2.1, x1.2.2.2.2.2.2.2.2.2.2.2.2.2.2.2.2.1, x1.2.2.2.2.2.2.2.2.2.2.2.2.2.2.2.2.2.1, w64 (x1.2.2.2.2.2.2.2.2.2.2.2.2.2.2.2.2.2.2 + 1)))
   else
   bif (x1.1 == 4) then
    (iAdaptedCode x1.2.2.2.2.2.2.1 e2.src e2.dst).bind fun r5 =>
    some (.inl (x1.1, x1.2.1, x1.2.2.1, x1.2.2.2.1, x1.2.2.2.2.1, x1.2.2.2.2.2.1, r5, x1.2.2.2.2.2.2.2.1, x1.2.2.2.2.2.2.2.2.1, x1.2.2.2.2.2.2.2.2.2.1, x1.2.2.2.2.2.2.2.2.2.2.1, x1.2.2.2.2.2.2.2.2.2.2.2.1, x1.2.2.2.2.2.2.2.2.2.2.2.2.1, x1.2.2.2.2.2.2.2.2.2.2.2.2.2.1, x1.2.2.2.2.2.2.2.2.2.2.2.2.2.2.1, x1.2.2.2.2.2.2.2.2.2.2.2.2.2.2.2.1, x1.2.2.2.2.2.2.2.2.2.2.2.2.2.2.2.2.1, x1.2.2.2.2.2.2.2.2.2.2.2.2.2.2.2.2.2.1, w64 (x1.2.2.2.2.2.2.2.2.2.2.2.2.2.2.2.2.2.2 + 1)))
   else
    bif (x1.1 == 1) then
     bif (x1.2.2.2.2.1 == 2) then
      (iAdaptedCode x1.2.2.2.2.2.2.1 e2.src e2.dst).bind fun r6 =>
      some (.inl (x1.1, x1.2.1, x1.2.2.1, x1.2.2.2.1, x1.2.2.2.2.1, x1.2.2.2.2.2.1, r6, x1.2.2.2.2.2.2.2.1, x1.2.2.2.2.2.2.2.2.1, x1.2.2.2.2.2.2.2.2.2.1, x1.2.2.2.2.2.2.2.2.2.2.1, x1.2.2.2.2.2.2.2.2.2.2.2.1, x1.2.2.2.2.2.2.2.2.2.2.2.2.1, x1.2.2.2.2.2.2.2.2.2.2.2.2.2.1, x1.2.2.2.2.2.2.2.2.2.2.2.2.2.2.1, x1.2.2.2.2.2.2.2.2.2.2.2.2.2.2.2.1, x1.2.2.2.2.2.2.2.2.2.2.2.2.2.2.2.2.1, x1.2.2.2.2.2.2.2.2.2.2.2.2.2.2.2.2.2.1, w64 (x1.2.2.2.2.2.2.2.2.2.2.2.2.2.2.2.2.2.2 + 1)))
     else
      some (.inl (x1.1, x1.2.1, x1.2.2.1, x1.2.2.2.1, x1.2.2.2.2.1, x1.2.2.2.2.2.1, x1.2.2.2.2.2.2.1, x1.2.2.2.2.2.2.2.1, x1.2.2.2.2.2.2.2.2.1, x1.2.2.2.2.2.2.2.2.2.1, x1.2.2.2.2.2.2.2.2.2.2.1, x1.2.2.2.2.2.2.2.2.2.2.2.1, x1.2.2.2.2.2.2.2.2.2.2.2.2.1, x1.2.2.2.2.2.2.2.2.2.2.2.2.2.1, x1.2.2.2.2.2.2.2.2.2.2.2.2.2.2.1, x1.2.2.2.2.2.2.2.2.2.2.2.2.2.2.2.1, x1.2.2.2.2.2.2.2.2.2.2.2.2.2.2.2.2.1, x1.2.2.2.2.2.2.2.2.2.2.2.2.2.2.2.2.2.1, w64 (x1.2.2.2.2.2.2.2.2.2.2.2.2.2.2.2.2.2.2 + 1)))
    else
     some (.inl (x1.1, x1.2.1, x1.2.2.1, x1.2.2.2.1, x1.2.2.2.2.1, x1.2.2.2.2.2.1, x1.2.2.2.2.2.2.1, x1.2.2.2.2.2.2.2.1, x1.2.2.2.2.2.2.2.2.1, x1.2.2.2.2.2.2.2.2.2.1, x1.2.2.2.2.2.2.2.2.2.2.1, x1.2.2.2.2.2.2.2.2.2.2.2.1, x1.2.2.2.2.2.2.2.2.2.2.2.2.1, x1.2.2.2.2.2.2.2.2.2.2.2.2.2.1, x1.2.2.2.2.2.2.2.2.2.2.2.2.2.2.1, x1.2.2.2.2.2.2.2.2.2.2.2.2.2.2.2.1, x1.2.2.2.2.2.2.2.2.2.2.2.2.2.2.2.2.1, x1.2.2.2.2.2.2.2.2.2.2.2.2.2.2.2.2.2.1, w64 (x1.2.2.2.2.2.2.2.2.2.2.2.2.2.2.2.2.2.2 + 1)))
  else
   some (.inr (GEdit.mk x1.1 x1.2.1 (GCell.mk x1.2.2.1 x1.2.2.2.1 x1.2.2.2.2.1 x1.2.2.2.2.2.1 x1.2.2.2.2.2.2.1 x1.2.2.2.2.2.2.2.1)))
 ) (a.kind, a.pos, a.cell.id, a.cell.version, a.cell.kind, a.cell.name, a.cell.code, a.cell.n, 0, 0, 0, 0, 0, [], [], 0, b, (b.length : Int), 0)
noncomputable def iAdaptEditFS : Fsp := { fid := 9, ps := [⟨true, .base .edit⟩, ⟨false, .list (.base .op)⟩], rs := [⟨true, .base .edit⟩], ex := true, fn := fun x => iAdaptEdit x.1 x.2 }
noncomputable def eqCell (a : GCell) (b : GCell) : Option (Bool) :=
 bif (a.id != b.id) then
  some (false)
 else
 bif (a.version != b.version) then
  some (false)
 else
 bif (a.kind != b.kind) then
  some (false)
 else
  bif (!(a.name == b.name)) then
   some (false)
  else
   bif (!(a.code == b.code)) then
    some (false)
   else
    bif (a.n != b.n) then
     some (false)
    else
     some (true)
noncomputable def eqCellFS : Fsp := { fid := 18, ps := [⟨true, .base .cell⟩, ⟨true, .base .cell⟩], rs := [⟨false, .base .bool⟩], ex := true, fn := fun x => eqCell x.1 x.2 }
noncomputable def eqEdit (a : GEdit) (b : GEdit) : Option (Bool) :=
 bif (a.kind != b.kind) then
  some (false)
 else
  bif (a.pos != b.pos) then
   some (false)
  else
   (eqCell a.cell b.cell).bind fun r1 =>
   bif (!r1) then
    some (false)
   else
    some (true)
noncomputable def eqEditFS : Fsp := { fid := 10, ps := [⟨true, .base .edit⟩, ⟨true, .base .edit⟩], rs := [⟨false, .base .bool⟩], ex := true, fn := fun x => eqEdit x.1 x.2 }
noncomputable def eqIntS (a : List Int) (b : List Int) : Option (Bool) :=
 bif ((a.length : Int) != (b.length : Int)) then
  some (false)
 else
 loopD (fun (x1 : (List Int) × (List Int) × Int) =>
  bif (decide (x1.2.2 < (x1.1.length : Int))) then
   (idx x1.1 x1.2.2).bind fun e2 =>
   (idx x1.2.1 x1.2.2).bind fun e3 =>
   bif (e2 != e3) then
    some (.inr (false))
   else
    some (.inl (x1.1, x1.2.1, w64 (x1.2.2 + 1)))
  else
   some (.inr (true))
 ) (a, b, 0)
noncomputable def eqIntSFS : Fsp := { fid := 34, ps := [⟨false, .list (.base .int)⟩, ⟨false, .list (.base .int)⟩], rs := [⟨false, .base .bool⟩], ex := true, fn := fun x => eqIntS x.1 x.2 }
noncomputable def eqStringS (a : List Str) (b : List Str) : Option (Bool) :=
 bif ((a.length : Int) != (b.length : Int)) then
  some (false)
 else
 loopD (fun (x1 : (List Str) × (List Str) × Int) =>
  bif (decide (x1.2.2 < (x1.1.length : Int))) then
   (idx x1.1 x1.2.2).bind fun e2 =>
   (idx x1.2.1 x1.2.2).bind fun e3 =>
   bif (!(e2 == e3)) then
    some (.inr (false))
   else
    some (.inl (x1.1, x1.2.1, w64 (x1.2.2 + 1)))
  else
   some (.inr (true))
 ) (a, b, 0)
noncomputable def eqStringSFS : Fsp := { fid := 133, ps := [⟨false, .list (.base .str)⟩, ⟨false, .list (.base .str)⟩], rs := [⟨false, .base .bool⟩], ex := true, fn := fun x => eqStringS x.1 x.2 }
noncomputable def eqOrigin (a : GOrigin) (b : GOrigin) : Option (Bool) :=
 bif (a.cell != b.cell) then
  some (false)
 else
  bif (a.row != b.row) then
   some (false)
  else
   some (true)
noncomputable def eqOriginFS : Fsp := { fid := 193, ps := [⟨true, .base .origin⟩, ⟨true, .base .origin⟩], rs := [⟨false, .base .bool⟩], ex := true, fn := fun x => eqOrigin x.1 x.2 }
noncomputable def eqOriginS (a : List GOrigin) (b : List GOrigin) : Option (Bool) :=
 bif ((a.length : Int) != (b.length : Int)) then
  some (false)
 else
 loopD (fun (x1 : (List GOrigin) × (List GOrigin) × Int) =>
  bif (decide (x1.2.2 < (x1.1.length : Int))) then
   (idx x1.1 x1.2.2).bind fun e2 =>
   (idx x1.2.1 x1.2.2).bind fun e3 =>
   (eqOrigin e2 e3).bind fun r4 =>
   bif (!r4) then
    some (.inr (false))
   else
    some (.inl (x1.1, x1.2.1, w64 (x1.2.2 + 1)))
  else
   some (.inr (true))
 ) (a, b, 0)
noncomputable def eqOriginSFS : Fsp := { fid := 171, ps := [⟨false, .list (.base .origin)⟩, ⟨false, .list (.base .origin)⟩], rs := [⟨false, .base .bool⟩], ex := true, fn := fun x => eqOriginS x.1 x.2 }
noncomputable def eqRow (a : GRow) (b : GRow) : Option (Bool) :=
 (eqIntS a.cells b.cells).bind fun r1 =>
 bif (!r1) then
  some (false)
 else
  (eqOriginS a.orig b.orig).bind fun r2 =>
  bif (!r2) then
   some (false)
  else
   some (true)
noncomputable def eqRowFS : Fsp := { fid := 148, ps := [⟨true, .base .row⟩, ⟨true, .base .row⟩], rs := [⟨false, .base .bool⟩], ex := true, fn := fun x => eqRow x.1 x.2 }
noncomputable def eqRowS (a : List GRow) (b : List GRow) : Option (Bool) :=
 bif ((a.length : Int) != (b.length : Int)) then
  some (false)
 else
 loopD (fun (x1 : (List GRow) × (List GRow) × Int) =>
  bif (decide (x1.2.2 < (x1.1.length : Int))) then
   (idx x1.1 x1.2.2).bind fun e2 =>
   (idx x1.2.1 x1.2.2).bind fun e3 =>
   (eqRow e2 e3).bind fun r4 =>
   bif (!r4) then
    some (.inr (false))
   else
    some (.inl (x1.1, x1.2.1, w64 (x1.2.2 + 1)))
  else
   some (.inr (true))
 ) (a, b, 0)
noncomputable def eqRowSFS : Fsp := { fid := 134, ps := [⟨false, .list (.base .row)⟩, ⟨false, .list (.base .row)⟩], rs := [⟨false, .base .bool⟩], ex := true, fn := fun x => eqRowS x.1 x.2 }
noncomputable def eqValueB (reqValue : GVal → GVal → Option (Bool)) (reqValueS : (List GVal) → (List GVal) → Option (Bool)) (a : GVal) (b : GVal) : Option (Bool) :=
 bif (a.kind != b.kind) then
  some (false)
 else
 bif (a.n != b.n) then
  some (false)
 else
 bif (a.step != b.step) then
  some (false)
 else
 bif (!(a.text == b.text)) then
  some (false)
 else
 (reqValueS a.list b.list).bind fun r1 =>
 bif (!r1) then
  some (false)
 else
  (eqStringS a.columns b.columns).bind fun r2 =>
  bif (!r2) then
   some (false)
  else
   (eqRowS a.rows b.rows).bind fun r3 =>
   bif (!r3) then
    some (false)
   else
    some (true)
noncomputable def eqValueSB (reqValue : GVal → GVal → Option (Bool)) (reqValueS : (List GVal) → (List GVal) → Option (Bool)) (a : List GVal) (b : List GVal) : Option (Bool) :=
 bif ((a.length : Int) != (b.length : Int)) then
  some (false)
 else
 loopD (fun (x1 : (List GVal) × (List GVal) × Int) =>
  bif (decide (x1.2.2 < (x1.1.length : Int))) then
   (idx x1.1 x1.2.2).bind fun e2 =>
   (idx x1.2.1 x1.2.2).bind fun e3 =>
   (reqValue (reVal e2) (reVal e3)).bind fun r4 =>
   bif (!r4) then
    some (.inr (false))
   else
    some (.inl (x1.1, x1.2.1, w64 (x1.2.2 + 1)))
  else
   some (.inr (true))
 ) (a, b, 0)
noncomputable def eqValueG : Nat → (GVal → GVal → Option (Bool)) × ((List GVal) → (List GVal) → Option (Bool))
 | 0 => (fun _ _ => none, fun _ _ => none)
 | n + 1 => (eqValueB (eqValueG n).1 (eqValueG n).2, eqValueSB (eqValueG n).1 (eqValueG n).2)
noncomputable def eqValue (a : GVal) (b : GVal) : Option (Bool) := (eqValueG (siz a + siz b + 1)).1 a b
noncomputable def eqValueFS : Fsp := { fid := 98, ps := [⟨true, .base .val⟩, ⟨true, .base .val⟩], rs := [⟨false, .base .bool⟩], ex := true, fn := fun x => eqValue x.1 x.2 }
noncomputable def eqValueFSN (n : Nat) : Fsp := { fid := 98, ps := [⟨true, .base .val⟩, ⟨true, .base .val⟩], rs := [⟨false, .base .bool⟩], ex := true, fn := fun x => (eqValueG n).1 x.1 x.2 }
noncomputable def eqValueS (a : List GVal) (b : List GVal) : Option (Bool) := (eqValueG (siz a + siz b + 1)).2 a b
noncomputable def eqValueSFS : Fsp := { fid := 132, ps := [⟨false, .list (.base .val)⟩, ⟨false, .list (.base .val)⟩], rs := [⟨false, .base .bool⟩], ex := true, fn := fun x => eqValueS x.1 x.2 }
noncomputable def eqValueSFSN (n : Nat) : Fsp := { fid := 132, ps := [⟨false, .list (.base .val)⟩, ⟨false, .list (.base .val)⟩], rs := [⟨false, .base .bool⟩], ex := true, fn := fun x => (eqValueG n).2 x.1 x.2 }
noncomputable def eqRead (a : GRead) (b : GRead) : Option (Bool) :=
 bif (a.kind != b.kind) then
  some (false)
 else
 bif (a.n != b.n) then
  some (false)
 else
 bif (a.time != b.time) then
  some (false)
 else
  bif (!(a.text == b.text)) then
   some (false)
  else
   (eqValue (reVal a.result) (reVal b.result)).bind fun r1 =>
   bif (!r1) then
    some (false)
   else
    some (true)
noncomputable def eqReadFS : Fsp := { fid := 58, ps := [⟨true, .base .read⟩, ⟨true, .base .read⟩], rs := [⟨false, .base .bool⟩], ex := true, fn := fun x => eqRead x.1 x.2 }
noncomputable def eqReadS (a : List GRead) (b : List GRead) : Option (Bool) :=
 bif ((a.length : Int) != (b.length : Int)) then
  some (false)
 else
 loopD (fun (x1 : (List GRead) × (List GRead) × Int) =>
  bif (decide (x1.2.2 < (x1.1.length : Int))) then
   (idx x1.1 x1.2.2).bind fun e2 =>
   (idx x1.2.1 x1.2.2).bind fun e3 =>
   (eqRead (reRead e2) (reRead e3)).bind fun r4 =>
   bif (!r4) then
    some (.inr (false))
   else
    some (.inl (x1.1, x1.2.1, w64 (x1.2.2 + 1)))
  else
   some (.inr (true))
 ) (a, b, 0)
noncomputable def eqReadSFS : Fsp := { fid := 35, ps := [⟨false, .list (.base .read)⟩, ⟨false, .list (.base .read)⟩], rs := [⟨false, .base .bool⟩], ex := true, fn := fun x => eqReadS x.1 x.2 }
noncomputable def eqOp (a : GOp) (b : GOp) : Option (Bool) :=
 bif (a.time != b.time) then
  some (false)
 else
 bif (a.by_ != b.by_) then
  some (false)
 else
 bif (a.kind != b.kind) then
  some (false)
 else
 (eqIntS a.seen b.seen).bind fun r1 =>
 bif (!r1) then
  some (false)
 else
 (eqEdit a.edit b.edit).bind fun r2 =>
 bif (!r2) then
  some (false)
 else
 bif (!(a.src == b.src)) then
  some (false)
 else
 bif (!(a.dst == b.dst)) then
  some (false)
 else
 bif (a.cell != b.cell) then
  some (false)
 else
  bif (a.version != b.version) then
   some (false)
  else
   (eqReadS a.reads b.reads).bind fun r3 =>
   bif (!r3) then
    some (false)
   else
    some (true)
noncomputable def eqOpFS : Fsp := { fid := 19, ps := [⟨true, .base .op⟩, ⟨true, .base .op⟩], rs := [⟨false, .base .bool⟩], ex := true, fn := fun x => eqOp x.1 x.2 }
noncomputable def eqOpS (a : List GOp) (b : List GOp) : Option (Bool) :=
 bif ((a.length : Int) != (b.length : Int)) then
  some (false)
 else
 loopD (fun (x1 : (List GOp) × (List GOp) × Int) =>
  bif (decide (x1.2.2 < (x1.1.length : Int))) then
   (idx x1.1 x1.2.2).bind fun e2 =>
   (idx x1.2.1 x1.2.2).bind fun e3 =>
   (eqOp e2 e3).bind fun r4 =>
   bif (!r4) then
    some (.inr (false))
   else
    some (.inl (x1.1, x1.2.1, w64 (x1.2.2 + 1)))
  else
   some (.inr (true))
 ) (a, b, 0)
noncomputable def eqOpSFS : Fsp := { fid := 11, ps := [⟨false, .list (.base .op)⟩, ⟨false, .list (.base .op)⟩], rs := [⟨false, .base .bool⟩], ex := true, fn := fun x => eqOpS x.1 x.2 }
noncomputable def FnExactAdaptEdit (a : GEdit) (b : List GOp) : Option (Bool) :=
 (szEdit a 1048576).bind fun r1 =>
 bif (decide (r1 < 0)) then
  some (true)
 else
 (szOpS b r1).bind fun r2 =>
 bif (decide (r2 < 0)) then
  some (true)
 else
 (toEdit a).bind fun r3 =>
 (toOpS b).bind fun r4 =>
 (sAdaptEdit r3 r4).bind fun r5 =>
 (toOpS b).bind fun r6 =>
 (toEdit a).bind fun r7 =>
 (iAdaptEdit r7 r6).bind fun r8 =>
 (eqEdit r8 r5).bind fun r9 =>
 bif (!r9) then
  some (false)
 else
  (toOpS b).bind fun r10 =>
  (eqOpS r6 r10).bind fun r11 =>
  bif (!r11) then
   some (false)
  else
   some (true)
noncomputable def FnExactAdaptEditFS : Fsp := { fid := 3, ps := [⟨true, .base .edit⟩, ⟨false, .list (.base .op)⟩], rs := [⟨false, .base .bool⟩], ex := true, fn := fun x => FnExactAdaptEdit x.1 x.2 }
end Go.Proofs.YtceinjokenbhjaaGreatDoor
