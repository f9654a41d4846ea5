import Derived.Test.YtgfjbogcidlaeaaGreatDoorTabs
import Derived.Test.YtgfjbogcidlaeaaGreatDoorSortD
import Derived.Test.YtgfjbogcidlaeaaGreatDoorLib0
/- What the functions compute, by gen.py. -/
namespace Go.Proofs.YtgfjbogcidlaeaaGreatDoor
noncomputable section
open Go.Abs Go.Proofs
set_option linter.unusedVariables false
abbrev shT (b : Base) : Sh := ⟨true, .base b⟩
abbrev shF (b : Base) : Sh := ⟨false, .base b⟩
abbrev slF (b : Base) : Sh := ⟨false, .list (.base b)⟩
abbrev siz {α : Type} [SizeOf α] (x : α) : Nat := SizeOf.sizeOf x
abbrev w64 (n : Int) : Int := IntKind.i64.wrap n
abbrev w8 (n : Int) : Int := IntKind.u8.wrap n
def libSortStringsIS : Isp := { fid := 113, t := .base .str, fn := libSortStrings }
def szCell (a : GCell) (b : Int) : Option (Int) :=
 bif (decide ((w64 (b - (a.name.length : Int))) < 0)) then
  some ((-1))
 else
  bif (decide ((w64 ((w64 (b - (a.name.length : Int))) - (a.code.length : Int))) < 0)) then
   some ((-1))
  else
   some (w64 ((w64 (b - (a.name.length : Int))) - (a.code.length : Int)))
def szCellFS : Fsp := ⟨34, [shT .cell, shF .int], [shF .int], true, false, fun x => szCell x.1 x.2⟩
def szCellS (a : List GCell) (b : Int) : Option (Int) :=
 bif (decide ((w64 (b - (a.length : Int))) < 0)) then
  some ((-1))
 else
 loopD (fun (x1 : (List GCell) × Int × Int) =>
  bif (decide (x1.2.2 < (x1.1.length : Int))) then
   (idx x1.1 x1.2.2).bind fun e2 =>
   (szCell e2 x1.2.1).bind fun r3 =>
   bif (decide (r3 < 0)) then
    some (.inr ((-1)))
   else
    some (.inl (x1.1, r3, w64 (x1.2.2 + 1)))
  else
   some (.inr (x1.2.1))
 ) (a, w64 (b - (a.length : Int)), 0)
def szCellSFS : Fsp := ⟨16, [slF .cell, shF .int], [shF .int], true, false, fun x => szCellS x.1 x.2⟩
def szNotebook (a : GNotebook) (b : Int) : Option (Int) :=
 (szCellS a.cells b).bind fun r1 =>
 bif (decide (r1 < 0)) then
  some ((-1))
 else
  some (r1)
def szNotebookFS : Fsp := ⟨5, [shT .notebook, shF .int], [shF .int], true, false, fun x => szNotebook x.1 x.2⟩
def sL1In (a : Int) (b : Int) (c : Int) : Option (Bool) :=
 bif (decide (a >= b)) then
  some ((decide (a <= c)))
 else
  some (false)
def sL1InFS : Fsp := ⟨63, [shF .int, shF .int, shF .int], [shF .bool], true, false, fun x => sL1In x.1 x.2.1 x.2.2⟩
def sIsPrintable (a : Str) : Option (Bool) :=
 loopD (fun (x1 : Str × Int) =>
  bif (decide (x1.2 < (x1.1.length : Int))) then
   (idx x1.1 x1.2).bind fun c2 =>
   bif (decide ((c2.toNat : Int) < 32)) then
    some (.inr (false))
   else
    (idx x1.1 x1.2).bind fun c3 =>
    bif (decide ((c3.toNat : Int) > 126)) then
     some (.inr (false))
    else
     some (.inl (x1.1, w64 (x1.2 + 1)))
  else
   some (.inr ((decide ((x1.1.length : Int) <= 120))))
 ) (a, 0)
def sIsPrintableFS : Fsp := ⟨64, [shF .str], [shF .bool], true, false, fun x => sIsPrintable x⟩
def sL2Shape (a : Str) : Option (Bool) :=
 loopD (fun (x1 : Str × Int) =>
  bif (decide (x1.2 < (x1.1.length : Int))) then
   (idx x1.1 x1.2).bind fun c2 =>
   bif (decide ((c2.toNat : Int) >= 97)) then
    (idx x1.1 x1.2).bind fun c3 =>
    (idx x1.1 x1.2).bind fun c4 =>
    bif (decide ((c4.toNat : Int) >= 48)) then
     (idx x1.1 x1.2).bind fun c5 =>
     bif (!(decide ((c3.toNat : Int) <= 122))) then
      bif (x1.2 == 0) then
       some (.inr (false))
      else
       bif (!(decide ((c5.toNat : Int) <= 57))) then
        some (.inr (false))
       else
        some (.inl (x1.1, w64 (x1.2 + 1)))
     else
      some (.inl (x1.1, w64 (x1.2 + 1)))
    else
     bif (!(decide ((c3.toNat : Int) <= 122))) then
      bif (x1.2 == 0) then
       some (.inr (false))
      else
       some (.inr (false))
     else
      some (.inl (x1.1, w64 (x1.2 + 1)))
   else
   (idx x1.1 x1.2).bind fun c6 =>
   bif (decide ((c6.toNat : Int) >= 48)) then
    (idx x1.1 x1.2).bind fun c7 =>
    bif (x1.2 == 0) then
     some (.inr (false))
    else
     bif (!(decide ((c7.toNat : Int) <= 57))) then
      some (.inr (false))
     else
      some (.inl (x1.1, w64 (x1.2 + 1)))
   else
    bif (x1.2 == 0) then
     some (.inr (false))
    else
     some (.inr (false))
  else
   some (.inr ((decide ((x1.1.length : Int) > 0))))
 ) (a, 0)
def sL2ShapeFS : Fsp := ⟨99, [shF .str], [shF .bool], true, false, fun x => sL2Shape x⟩
def sL1Has (a : List Str) (b : Str) : Option (Bool) :=
 loopD (fun (x1 : (List Str) × Str × Int) =>
  bif (decide (x1.2.2 < (x1.1.length : Int))) then
   (idx x1.1 x1.2.2).bind fun e2 =>
   bif (e2 == x1.2.1) then
    some (.inr (true))
   else
    some (.inl (x1.1, x1.2.1, w64 (x1.2.2 + 1)))
  else
   some (.inr (false))
 ) (a, b, 0)
def sL1HasFS : Fsp := ⟨138, [slF .str, shF .str], [shF .bool], true, false, fun x => sL1Has x.1 x.2⟩
def sL2Reserved : Option ((List Str)) :=
 some (([[108, 101, 116], [105, 110], [105, 102], [116, 104, 101, 110], [101, 108, 115, 101], [102, 111, 114], [100, 111], [108, 101, 110], [115, 117, 109], [116, 97, 107, 101], [115, 107, 105, 112], [114, 97, 110, 103, 101], [110, 116, 104], [119, 104, 101, 114, 101], [107, 101, 101, 112], [97, 100, 100], [103, 114, 111, 117, 112], [106, 111, 105, 110], [99, 111, 108, 117, 109, 110], [114, 111, 119, 115], [99, 108, 111, 99, 107], [99, 104, 97, 110, 99, 101], [102, 105, 108, 101], [116, 97, 98, 108, 101]] : List Str))
def sL2ReservedFS : Fsp := ⟨139, [], [slF .str], true, false, fun x => sL2Reserved⟩
def sIsReserved (a : Str) : Option (Bool) :=
 (sL2Reserved).bind fun r1 =>
 (sL1Has r1 a).bind fun r2 =>
 some (r2)
def sIsReservedFS : Fsp := ⟨100, [shF .str], [shF .bool], true, false, fun x => sIsReserved x⟩
def sIsValidName (a : Str) : Option (Bool) :=
 (sL2Shape a).bind fun r1 =>
 bif r1 then
  bif (decide ((a.length : Int) <= 8)) then
   (sIsReserved a).bind fun r2 =>
   some ((!r2))
  else
   some (false)
 else
  some (false)
def sIsValidNameFS : Fsp := ⟨65, [shF .str], [shF .bool], true, false, fun x => sIsValidName x⟩
def sIsValidCell (a : GCell) : Option (Bool) :=
 (sL1In a.id 1 999).bind fun r1 =>
 bif (!r1) then
  some (false)
 else
 (sL1In a.version 1 999).bind fun r2 =>
 bif (!r2) then
  some (false)
 else
 (sIsPrintable a.code).bind fun r3 =>
 bif (!r3) then
  some (false)
 else
 bif (a.kind == 1) then
  bif (a.name == []) then
   some ((a.n == 0))
  else
   some (false)
 else
 bif (a.kind == 2) then
  (sIsValidName a.name).bind fun r4 =>
  bif r4 then
   some ((a.n == 0))
  else
   some (false)
 else
 bif (a.kind == 4) then
  (sIsValidName a.name).bind fun r5 =>
  bif r5 then
   some ((a.n == 0))
  else
   some (false)
 else
 bif (a.kind == 3) then
  (sIsValidName a.name).bind fun r6 =>
  bif r6 then
   bif (a.code == []) then
    (sL1In a.n 0 100).bind fun r7 =>
    some (r7)
   else
    some (false)
  else
   some (false)
 else
  some (false)
def sIsValidCellFS : Fsp := ⟨38, [shT .cell], [shF .bool], true, false, fun x => sIsValidCell x⟩
def sCellIndex (a : GNotebook) (b : Int) : Option (Int) :=
 loopD (fun (x1 : Int × (List GCell) × Int) =>
  bif (decide (x1.2.2 < (x1.2.1.length : Int))) then
   (idx x1.2.1 x1.2.2).bind fun e2 =>
   bif (e2.id == x1.1) then
    some (.inr (x1.2.2))
   else
    some (.inl (x1.1, x1.2.1, w64 (x1.2.2 + 1)))
  else
   some (.inr ((-1)))
 ) (b, a.cells, 0)
def sCellIndexFS : Fsp := ⟨39, [shT .notebook, shF .int], [shF .int], true, false, fun x => sCellIndex x.1 x.2⟩
def sIsValidNotebook (a : GNotebook) : Option (Bool) :=
 loopD (fun (x1 : (List GCell) × Int) =>
  bif (decide (x1.2 < (x1.1.length : Int))) then
   (idx x1.1 x1.2).bind fun e2 =>
   (sIsValidCell e2).bind fun r3 =>
   bif (!r3) then
    some (.inr (false))
   else
    (idx x1.1 x1.2).bind fun e4 =>
    (sCellIndex (GNotebook.mk x1.1) e4.id).bind fun r5 =>
    bif (r5 != x1.2) then
     some (.inr (false))
    else
     some (.inl (x1.1, w64 (x1.2 + 1)))
  else
   some (.inr ((decide ((x1.1.length : Int) <= 8))))
 ) (a.cells, 0)
def sIsValidNotebookFS : Fsp := ⟨19, [shT .notebook], [shF .bool], true, false, fun x => sIsValidNotebook x⟩
def sFormatInt (a : Int) : Option (Str) :=
 bif (a == 0) then
  some ([48])
 else
 loopD (fun (x1 : Int × Bool × Str) =>
  bif (x1.1 != 0) then
   bif (decide ((x1.1.tmod 10) < 0)) then
    (gd ((bytesOf [w8 (w64 (48 + (w64 (0 - (x1.1.tmod 10)))))]).length + x1.2.2.length)).bind fun _ =>
    some (.inl (w64 (x1.1.tdiv 10), x1.2.1, (bytesOf [w8 (w64 (48 + (w64 (0 - (x1.1.tmod 10)))))]) ++ x1.2.2))
   else
    (gd ((bytesOf [w8 (w64 (48 + (x1.1.tmod 10)))]).length + x1.2.2.length)).bind fun _ =>
    some (.inl (w64 (x1.1.tdiv 10), x1.2.1, (bytesOf [w8 (w64 (48 + (x1.1.tmod 10)))]) ++ x1.2.2))
  else
   (
    bif x1.2.1 then
     (gd ([45].length + x1.2.2.length)).bind fun _ =>
     some ([45] ++ x1.2.2)
    else
     some (x1.2.2)
   ).bind fun r => some (.inr r)
 ) (a, (decide (a < 0)), [])
def sFormatIntFS : Fsp := ⟨29, [shF .int], [shF .str], true, false, fun x => sFormatInt x⟩
def sL1Read (a : Str) (b : Int) : Option (Int × Bool) :=
 bif (decide ((a.length : Int) > 0)) then
  (idx a 0).bind fun c1 =>
  bif ((c1.toNat : Int) == 45) then
   (eff.cutL a (some 1) none).bind fun r2 =>
   bif (decide ((r2.length : Int) < 1)) then
    some (0, false)
   else
   bif (decide ((r2.length : Int) > b)) then
    some (0, false)
   else
   loopD (fun (x3 : Str × Bool × Str × Int × Int) =>
    bif (decide (x3.2.2.2.2 < (x3.2.2.1.length : Int))) then
     (idx x3.2.2.1 x3.2.2.2.2).bind fun c4 =>
     bif (decide ((c4.toNat : Int) < 48)) then
      some (.inr (0, false))
     else
      (idx x3.2.2.1 x3.2.2.2.2).bind fun c5 =>
      bif (decide ((c5.toNat : Int) > 57)) then
       some (.inr (0, false))
      else
       (idx x3.2.2.1 x3.2.2.2.2).bind fun c6 =>
       some (.inl (x3.1, x3.2.1, x3.2.2.1, w64 ((w64 (10 * x3.2.2.2.1)) + (w64 (w8 ((c6.toNat : Int) - 48)))), w64 (x3.2.2.2.2 + 1)))
    else
    (
     bif x3.2.1 then
      (sFormatInt (w64 (0 - x3.2.2.2.1))).bind fun r7 =>
      bif (!(r7 == x3.1)) then
       some (0, false)
      else
       some (w64 (0 - x3.2.2.2.1), true)
     else
      (sFormatInt x3.2.2.2.1).bind fun r8 =>
      bif (!(r8 == x3.1)) then
       some (0, false)
      else
       some (x3.2.2.2.1, true)
    ).bind fun r => some (.inr r)
   ) (a, ((c1.toNat : Int) == 45), r2, 0, 0)
  else
  bif (decide ((a.length : Int) < 1)) then
   some (0, false)
  else
  bif (decide ((a.length : Int) > b)) then
   some (0, false)
  else
  loopD (fun (x9 : Str × Bool × Str × Int × Int) =>
   bif (decide (x9.2.2.2.2 < (x9.2.2.1.length : Int))) then
    (idx x9.2.2.1 x9.2.2.2.2).bind fun c10 =>
    bif (decide ((c10.toNat : Int) < 48)) then
     some (.inr (0, false))
    else
     (idx x9.2.2.1 x9.2.2.2.2).bind fun c11 =>
     bif (decide ((c11.toNat : Int) > 57)) then
      some (.inr (0, false))
     else
      (idx x9.2.2.1 x9.2.2.2.2).bind fun c12 =>
      some (.inl (x9.1, x9.2.1, x9.2.2.1, w64 ((w64 (10 * x9.2.2.2.1)) + (w64 (w8 ((c12.toNat : Int) - 48)))), w64 (x9.2.2.2.2 + 1)))
   else
   (
    bif x9.2.1 then
     (sFormatInt (w64 (0 - x9.2.2.2.1))).bind fun r13 =>
     bif (!(r13 == x9.1)) then
      some (0, false)
     else
      some (w64 (0 - x9.2.2.2.1), true)
    else
     (sFormatInt x9.2.2.2.1).bind fun r14 =>
     bif (!(r14 == x9.1)) then
      some (0, false)
     else
      some (x9.2.2.2.1, true)
   ).bind fun r => some (.inr r)
  ) (a, ((c1.toNat : Int) == 45), a, 0, 0)
 else
 bif (decide ((a.length : Int) < 1)) then
  some (0, false)
 else
 bif (decide ((a.length : Int) > b)) then
  some (0, false)
 else
 loopD (fun (x15 : Str × Bool × Str × Int × Int) =>
  bif (decide (x15.2.2.2.2 < (x15.2.2.1.length : Int))) then
   (idx x15.2.2.1 x15.2.2.2.2).bind fun c16 =>
   bif (decide ((c16.toNat : Int) < 48)) then
    some (.inr (0, false))
   else
    (idx x15.2.2.1 x15.2.2.2.2).bind fun c17 =>
    bif (decide ((c17.toNat : Int) > 57)) then
     some (.inr (0, false))
    else
     (idx x15.2.2.1 x15.2.2.2.2).bind fun c18 =>
     some (.inl (x15.1, x15.2.1, x15.2.2.1, w64 ((w64 (10 * x15.2.2.2.1)) + (w64 (w8 ((c18.toNat : Int) - 48)))), w64 (x15.2.2.2.2 + 1)))
  else
  (
   bif x15.2.1 then
    (sFormatInt (w64 (0 - x15.2.2.2.1))).bind fun r19 =>
    bif (!(r19 == x15.1)) then
     some (0, false)
    else
     some (w64 (0 - x15.2.2.2.1), true)
   else
    (sFormatInt x15.2.2.2.1).bind fun r20 =>
    bif (!(r20 == x15.1)) then
     some (0, false)
    else
     some (x15.2.2.2.1, true)
  ).bind fun r => some (.inr r)
 ) (a, false, a, 0, 0)
def sL1ReadFS : Fsp := ⟨180, [shF .str, shF .int], [shF .int, shF .bool], true, false, fun x => sL1Read x.1 x.2⟩
def sParseInt (a : Str) : Option (Int × Bool) :=
 (sL1Read a 12).bind fun r1 =>
 some (r1.1, r1.2)
def sParseIntFS : Fsp := ⟨130, [shF .str], [shF .int, shF .bool], true, false, fun x => sParseInt x⟩
def sIsValidText (a : Str) : Option (Bool) :=
 loopD (fun (x1 : Str × Int) =>
  bif (decide (x1.2 < (x1.1.length : Int))) then
   (idx x1.1 x1.2).bind fun c2 =>
   bif (decide ((c2.toNat : Int) < 32)) then
    some (.inr (false))
   else
    (idx x1.1 x1.2).bind fun c3 =>
    bif (decide ((c3.toNat : Int) > 126)) then
     some (.inr (false))
    else
     (idx x1.1 x1.2).bind fun c4 =>
     bif ((c4.toNat : Int) == 34) then
      some (.inr (false))
     else
      some (.inl (x1.1, w64 (x1.2 + 1)))
  else
   some (.inr ((decide ((x1.1.length : Int) <= 20))))
 ) (a, 0)
def sIsValidTextFS : Fsp := ⟨132, [shF .str], [shF .bool], true, false, fun x => sIsValidText x⟩
def sL9Letter (a : Int) : Option (Bool) :=
 bif (decide (a >= 97)) then
  some ((decide (a <= 122)))
 else
  some (false)
def sL9LetterFS : Fsp := ⟨171, [shF .u8], [shF .bool], true, false, fun x => sL9Letter x⟩
def sL9Digit (a : Int) : Option (Bool) :=
 bif (decide (a >= 48)) then
  some ((decide (a <= 57)))
 else
  some (false)
def sL9DigitFS : Fsp := ⟨172, [shF .u8], [shF .bool], true, false, fun x => sL9Digit x⟩
def sL9Symbol (a : Str) (b : Int) : Option (Int) :=
 (idx a b).bind fun c1 =>
 bif ((c1.toNat : Int) == 40) then
  some (1)
 else
 bif ((c1.toNat : Int) == 41) then
  some (1)
 else
 bif ((c1.toNat : Int) == 91) then
  some (1)
 else
 bif ((c1.toNat : Int) == 93) then
  some (1)
 else
 bif ((c1.toNat : Int) == 44) then
  some (1)
 else
 bif ((c1.toNat : Int) == 43) then
  some (1)
 else
 bif ((c1.toNat : Int) == 45) then
  some (1)
 else
 bif ((c1.toNat : Int) == 42) then
  some (1)
 else
 bif ((c1.toNat : Int) == 60) then
  some (1)
 else
 bif ((c1.toNat : Int) == 61) then
  bif (decide ((w64 (b + 1)) < (a.length : Int))) then
   (idx a (w64 (b + 1))).bind fun c2 =>
   bif ((c2.toNat : Int) == 61) then
    some (2)
   else
    some (1)
  else
   some (1)
 else
  some (0)
def sL9SymbolFS : Fsp := ⟨173, [shF .str, shF .int], [shF .int], true, false, fun x => sL9Symbol x.1 x.2⟩
def sL9Next (a : Str) (b : Int) : Option (GToken × Int) :=
 (idx a b).bind fun c1 =>
 (sL9Letter (c1.toNat : Int)).bind fun r2 =>
 bif r2 then
  loopD (fun (x3 : Str × Int × Int × Int × Int × Str × Int × Int × Int × Str × Int) =>
   bif (decide (x3.2.2.2.2.2.2.2.2.2.2 < (x3.1.length : Int))) then
    (idx x3.1 x3.2.2.2.2.2.2.2.2.2.2).bind fun c4 =>
    (sL9Letter (c4.toNat : Int)).bind fun r5 =>
    bif r5 then
     some (.inl (x3.1, x3.2.1, x3.2.2.1, x3.2.2.2.1, x3.2.2.2.2.1, x3.2.2.2.2.2.1, x3.2.2.2.2.2.2.1, x3.2.2.2.2.2.2.2.1, x3.2.2.2.2.2.2.2.2.1, x3.2.2.2.2.2.2.2.2.2.1, w64 (x3.2.2.2.2.2.2.2.2.2.2 + 1)))
    else
    (idx x3.1 x3.2.2.2.2.2.2.2.2.2.2).bind fun c6 =>
    (sL9Digit (c6.toNat : Int)).bind fun r7 =>
    bif r7 then
     some (.inl (x3.1, x3.2.1, x3.2.2.1, x3.2.2.2.1, x3.2.2.2.2.1, x3.2.2.2.2.2.1, x3.2.2.2.2.2.2.1, x3.2.2.2.2.2.2.2.1, x3.2.2.2.2.2.2.2.2.1, x3.2.2.2.2.2.2.2.2.2.1, w64 (x3.2.2.2.2.2.2.2.2.2.2 + 1)))
    else
     (
      (eff.cutL x3.1 (some x3.2.1) (some x3.2.2.2.2.2.2.2.2.2.2)).bind fun r8 =>
      bif (decide ((w64 (x3.2.2.2.2.2.2.2.2.2.2 - x3.2.1)) > 8)) then
       some (GToken.mk 1 x3.2.2.2.2.2.2.2.1 x3.2.2.2.2.2.2.2.2.1 r8, 0)
      else
       some (GToken.mk 1 x3.2.2.2.2.2.2.2.1 x3.2.2.2.2.2.2.2.2.1 r8, w64 (x3.2.2.2.2.2.2.2.2.2.2 - x3.2.1))
     ).bind fun r => some (.inr r)
   else
    (
     (eff.cutL x3.1 (some x3.2.1) (some x3.2.2.2.2.2.2.2.2.2.2)).bind fun r9 =>
     bif (decide ((w64 (x3.2.2.2.2.2.2.2.2.2.2 - x3.2.1)) > 8)) then
      some (GToken.mk 1 x3.2.2.2.2.2.2.2.1 x3.2.2.2.2.2.2.2.2.1 r9, 0)
     else
      some (GToken.mk 1 x3.2.2.2.2.2.2.2.1 x3.2.2.2.2.2.2.2.2.1 r9, w64 (x3.2.2.2.2.2.2.2.2.2.2 - x3.2.1))
    ).bind fun r => some (.inr r)
  ) (a, b, 0, 0, 0, [], 0, 0, b, [], b)
 else
 (idx a b).bind fun c10 =>
 (sL9Digit (c10.toNat : Int)).bind fun r11 =>
 bif r11 then
  loopD (fun (x12 : Str × Int × Int × Int × Int × Str × Int × Int × Int × Str × Int) =>
   bif (decide (x12.2.2.2.2.2.2.2.2.2.2 < (x12.1.length : Int))) then
    (idx x12.1 x12.2.2.2.2.2.2.2.2.2.2).bind fun c13 =>
    (sL9Digit (c13.toNat : Int)).bind fun r14 =>
    bif r14 then
     some (.inl (x12.1, x12.2.1, x12.2.2.1, x12.2.2.2.1, x12.2.2.2.2.1, x12.2.2.2.2.2.1, x12.2.2.2.2.2.2.1, x12.2.2.2.2.2.2.2.1, x12.2.2.2.2.2.2.2.2.1, x12.2.2.2.2.2.2.2.2.2.1, w64 (x12.2.2.2.2.2.2.2.2.2.2 + 1)))
    else
     (
      (eff.cutL x12.1 (some x12.2.1) (some x12.2.2.2.2.2.2.2.2.2.2)).bind fun r15 =>
      (sParseInt r15).bind fun r16 =>
      bif (!r16.2) then
       some (GToken.mk 2 r16.1 x12.2.2.2.2.2.2.2.2.1 x12.2.2.2.2.2.2.2.2.2.1, 0)
      else
       bif (decide (r16.1 > 1000000000)) then
        some (GToken.mk 2 r16.1 x12.2.2.2.2.2.2.2.2.1 x12.2.2.2.2.2.2.2.2.2.1, 0)
       else
        some (GToken.mk 2 r16.1 x12.2.2.2.2.2.2.2.2.1 x12.2.2.2.2.2.2.2.2.2.1, w64 (x12.2.2.2.2.2.2.2.2.2.2 - x12.2.1))
     ).bind fun r => some (.inr r)
   else
    (
     (eff.cutL x12.1 (some x12.2.1) (some x12.2.2.2.2.2.2.2.2.2.2)).bind fun r17 =>
     (sParseInt r17).bind fun r18 =>
     bif (!r18.2) then
      some (GToken.mk 2 r18.1 x12.2.2.2.2.2.2.2.2.1 x12.2.2.2.2.2.2.2.2.2.1, 0)
     else
      bif (decide (r18.1 > 1000000000)) then
       some (GToken.mk 2 r18.1 x12.2.2.2.2.2.2.2.2.1 x12.2.2.2.2.2.2.2.2.2.1, 0)
      else
       some (GToken.mk 2 r18.1 x12.2.2.2.2.2.2.2.2.1 x12.2.2.2.2.2.2.2.2.2.1, w64 (x12.2.2.2.2.2.2.2.2.2.2 - x12.2.1))
    ).bind fun r => some (.inr r)
  ) (a, b, 0, 0, 0, [], 0, 0, b, [], b)
 else
 (idx a b).bind fun c19 =>
 bif ((c19.toNat : Int) == 34) then
  loopD (fun (x20 : Str × Int × Int × Int × Int × Str × Int × Int × Int × Str × Int) =>
   bif (decide (x20.2.2.2.2.2.2.2.2.2.2 < (x20.1.length : Int))) then
    (idx x20.1 x20.2.2.2.2.2.2.2.2.2.2).bind fun c21 =>
    bif ((c21.toNat : Int) != 34) then
     some (.inl (x20.1, x20.2.1, x20.2.2.1, x20.2.2.2.1, x20.2.2.2.2.1, x20.2.2.2.2.2.1, x20.2.2.2.2.2.2.1, x20.2.2.2.2.2.2.2.1, x20.2.2.2.2.2.2.2.2.1, x20.2.2.2.2.2.2.2.2.2.1, w64 (x20.2.2.2.2.2.2.2.2.2.2 + 1)))
    else
     (
      (eff.cutL x20.1 (some (w64 (x20.2.1 + 1))) (some x20.2.2.2.2.2.2.2.2.2.2)).bind fun r22 =>
      bif (x20.2.2.2.2.2.2.2.2.2.2 == (x20.1.length : Int)) then
       some (GToken.mk 3 x20.2.2.2.2.2.2.2.1 x20.2.2.2.2.2.2.2.2.1 r22, 0)
      else
       (sIsValidText r22).bind fun r23 =>
       bif (!r23) then
        some (GToken.mk 3 x20.2.2.2.2.2.2.2.1 x20.2.2.2.2.2.2.2.2.1 r22, 0)
       else
        some (GToken.mk 3 x20.2.2.2.2.2.2.2.1 x20.2.2.2.2.2.2.2.2.1 r22, w64 ((w64 (x20.2.2.2.2.2.2.2.2.2.2 + 1)) - x20.2.1))
     ).bind fun r => some (.inr r)
   else
    (
     (eff.cutL x20.1 (some (w64 (x20.2.1 + 1))) (some x20.2.2.2.2.2.2.2.2.2.2)).bind fun r24 =>
     bif (x20.2.2.2.2.2.2.2.2.2.2 == (x20.1.length : Int)) then
      some (GToken.mk 3 x20.2.2.2.2.2.2.2.1 x20.2.2.2.2.2.2.2.2.1 r24, 0)
     else
      (sIsValidText r24).bind fun r25 =>
      bif (!r25) then
       some (GToken.mk 3 x20.2.2.2.2.2.2.2.1 x20.2.2.2.2.2.2.2.2.1 r24, 0)
      else
       some (GToken.mk 3 x20.2.2.2.2.2.2.2.1 x20.2.2.2.2.2.2.2.2.1 r24, w64 ((w64 (x20.2.2.2.2.2.2.2.2.2.2 + 1)) - x20.2.1))
    ).bind fun r => some (.inr r)
  ) (a, b, 0, 0, 0, [], 0, 0, b, [], w64 (b + 1))
 else
  (sL9Symbol a b).bind fun r26 =>
  (eff.cutL a (some b) (some (w64 (b + r26)))).bind fun r27 =>
  some (GToken.mk 4 0 b r27, w64 ((w64 (b + r26)) - b))
def sL9NextFS : Fsp := ⟨122, [shF .str, shF .int], [shT .token, shF .int], true, false, fun x => sL9Next x.1 x.2⟩
def sTokenize (a : Str) : Option ((List GToken) × Int) :=
 bif (decide ((a.length : Int) > 120)) then
  some ([], 120)
 else
 loopD (fun (x1 : Str × (List GToken) × Int) =>
  bif (decide (x1.2.2 < (x1.1.length : Int))) then
   (idx x1.1 x1.2.2).bind fun c2 =>
   bif ((c2.toNat : Int) == 32) then
    some (.inl (x1.1, x1.2.1, w64 (x1.2.2 + 1)))
   else
    (sL9Next x1.1 x1.2.2).bind fun r3 =>
    bif (r3.2 == 0) then
     some (.inr ([], x1.2.2))
    else
     bif ((x1.2.1.length : Int) == 60) then
      some (.inr ([], x1.2.2))
     else
      (gd (x1.2.1.length + [r3.1].length)).bind fun _ =>
      some (.inl (x1.1, x1.2.1 ++ [r3.1], w64 (x1.2.2 + r3.2)))
  else
   some (.inr (x1.2.1, (-1)))
 ) (a, [], 0)
def sTokenizeFS : Fsp := ⟨87, [shF .str], [slF .token, shF .int], true, false, fun x => sTokenize x⟩
def sIsSymbol (a : GToken) (b : Str) : Option (Bool) :=
 bif (a.kind == 4) then
  some ((a.text == b))
 else
  some (false)
def sIsSymbolFS : Fsp := ⟨174, [shT .token, shF .str], [shF .bool], true, false, fun x => sIsSymbol x.1 x.2⟩
def sIsKeyword (a : GToken) (b : Str) : Option (Bool) :=
 bif (a.kind == 1) then
  some ((a.text == b))
 else
  some (false)
def sIsKeywordFS : Fsp := ⟨175, [shT .token, shF .str], [shF .bool], true, false, fun x => sIsKeyword x.1 x.2⟩
def sL11Sees (a : GRd) (b : Str) : Option (GRd × Bool) :=
 bif (decide (a.bad < 0)) then
  bif (decide (a.i < (a.toks.length : Int))) then
   (idx a.toks a.i).bind fun e1 =>
   (sIsSymbol e1 b).bind fun r2 =>
   bif r2 then
    some (a, true)
   else
    (idx a.toks a.i).bind fun e3 =>
    (sIsKeyword e3 b).bind fun r4 =>
    some (a, r4)
  else
   some (a, false)
 else
  some (a, false)
def sL11SeesFS : Fsp := ⟨123, [shT .rd, shF .str], [shT .rd, shF .bool], false, false, fun x => sL11Sees x.1 x.2⟩
def sL11Fail (a : GRd) : Option (GRd × GExpr) :=
 bif (decide (a.bad < 0)) then
  bif (decide (a.i < (a.toks.length : Int))) then
   (idx a.toks a.i).bind fun e1 =>
   some (GRd.mk a.toks a.i a.stop e1.pos, GExpr.mk 0 0 [] [])
  else
   some (GRd.mk a.toks a.i a.stop a.stop, GExpr.mk 0 0 [] [])
 else
  some (a, GExpr.mk 0 0 [] [])
def sL11FailFS : Fsp := ⟨89, [shT .rd], [shT .rd, shT .expr], false, true, fun x => sL11Fail x⟩
def sL11Name (a : GRd) : Option (GRd × Str) :=
 bif (decide (a.bad >= 0)) then
  (sL11Fail a).bind fun r1 =>
  some (r1.1, [])
 else
 bif (decide (a.i >= (a.toks.length : Int))) then
  (sL11Fail a).bind fun r2 =>
  some (r2.1, [])
 else
 (idx a.toks a.i).bind fun e3 =>
 bif (e3.kind != 1) then
  (sL11Fail a).bind fun r4 =>
  some (r4.1, [])
 else
  (idx a.toks a.i).bind fun e5 =>
  (sIsValidName e5.text).bind fun r6 =>
  bif (!r6) then
   (sL11Fail a).bind fun r7 =>
   some (r7.1, [])
  else
   (idx a.toks (w64 ((w64 (a.i + 1)) - 1))).bind fun e8 =>
   some (GRd.mk a.toks (w64 (a.i + 1)) a.stop a.bad, e8.text)
def sL11NameFS : Fsp := ⟨124, [shT .rd], [shT .rd, shF .str], false, false, fun x => sL11Name x⟩
def sL11Take (a : GRd) (b : Str) : Option (GRd) :=
 (sL11Sees a b).bind fun r1 =>
 bif (!r1.2) then
  (sL11Fail r1.1).bind fun r2 =>
  some (r2.1)
 else
  some (GRd.mk r1.1.toks (w64 (r1.1.i + 1)) r1.1.stop r1.1.bad)
def sL11TakeFS : Fsp := ⟨125, [shT .rd, shF .str], [shT .rd], false, false, fun x => sL11Take x.1 x.2⟩
def sL10Op (a : Int) (b : GExpr) (c : GExpr) : Option (GExpr) :=
 some (GExpr.mk 6 a [] [reExpr b, reExpr c])
def sL10OpFS : Fsp := ⟨177, [shF .int, shT .expr, shT .expr], [shT .expr], false, true, fun x => sL10Op x.1 x.2.1 x.2.2⟩
def sArgumentCount (a : Str) : Option (Int) :=
 bif (a == [99, 108, 111, 99, 107]) then
  some (0)
 else
 bif (a == [108, 101, 110]) then
  some (1)
 else
 bif (a == [115, 117, 109]) then
  some (1)
 else
 bif (a == [114, 111, 119, 115]) then
  some (1)
 else
 bif (a == [99, 104, 97, 110, 99, 101]) then
  some (1)
 else
 bif (a == [102, 105, 108, 101]) then
  some (1)
 else
 bif (a == [116, 97, 107, 101]) then
  some (2)
 else
 bif (a == [115, 107, 105, 112]) then
  some (2)
 else
 bif (a == [114, 97, 110, 103, 101]) then
  some (2)
 else
 bif (a == [110, 116, 104]) then
  some (2)
 else
 bif (a == [107, 101, 101, 112]) then
  some (2)
 else
 bif (a == [99, 111, 108, 117, 109, 110]) then
  some (2)
 else
 bif (a == [116, 97, 98, 108, 101]) then
  some (2)
 else
 bif (a == [119, 104, 101, 114, 101]) then
  some (3)
 else
  bif (a == [103, 114, 111, 117, 112]) then
   some (3)
  else
   bif (a == [106, 111, 105, 110]) then
    some (3)
   else
    bif (a == [97, 100, 100]) then
     some (4)
    else
     some ((-1))
def sArgumentCountFS : Fsp := ⟨207, [shF .str], [shF .int], true, false, fun x => sArgumentCount x⟩
def sL10Num (a : Int) : Option (GExpr) :=
 some (GExpr.mk 1 a [] [])
def sL10NumFS : Fsp := ⟨258, [shF .int], [shT .expr], true, false, fun x => sL10Num x⟩
def sL10Name (a : Str) : Option (GExpr) :=
 some (GExpr.mk 3 0 a [])
def sL10NameFS : Fsp := ⟨259, [shF .str], [shT .expr], true, false, fun x => sL10Name x⟩
def sL11ExprB (rsL11Expr : GRd -> Option (GRd × GExpr)) (rsL11Compare : GRd -> Option (GRd × GExpr)) (rsL11Sum : GRd -> Option (GRd × GExpr)) (rsL11Product : GRd -> Option (GRd × GExpr)) (rsL11Atom : GRd -> Option (GRd × GExpr)) (rsL11Args : GRd -> Str -> Option (GRd × (List GExpr))) (a : GRd) : Option (GRd × GExpr) :=
 (sL11Sees a [108, 101, 116]).bind fun r1 =>
 bif r1.2 then
  (sL11Name (GRd.mk r1.1.toks (w64 (r1.1.i + 1)) r1.1.stop r1.1.bad)).bind fun r2 =>
  (sL11Take r2.1 [61]).bind fun r3 =>
  (rsL11Expr r3).bind fun r4 =>
  (sL11Take r4.1 [105, 110]).bind fun r5 =>
  (rsL11Expr r5).bind fun r6 =>
  some (r6.1, GExpr.mk 7 0 r2.2 [reExpr r4.2, reExpr r6.2])
 else
 (sL11Sees r1.1 [105, 102]).bind fun r7 =>
 bif r7.2 then
  (rsL11Expr (GRd.mk r7.1.toks (w64 (r7.1.i + 1)) r7.1.stop r7.1.bad)).bind fun r8 =>
  (sL11Take r8.1 [116, 104, 101, 110]).bind fun r9 =>
  (rsL11Expr r9).bind fun r10 =>
  (sL11Take r10.1 [101, 108, 115, 101]).bind fun r11 =>
  (rsL11Expr r11).bind fun r12 =>
  some (r12.1, GExpr.mk 8 0 [] [reExpr r8.2, reExpr r10.2, reExpr r12.2])
 else
 (sL11Sees r7.1 [102, 111, 114]).bind fun r13 =>
 bif r13.2 then
  (sL11Name (GRd.mk r13.1.toks (w64 (r13.1.i + 1)) r13.1.stop r13.1.bad)).bind fun r14 =>
  (sL11Take r14.1 [105, 110]).bind fun r15 =>
  (rsL11Expr r15).bind fun r16 =>
  (sL11Take r16.1 [100, 111]).bind fun r17 =>
  (rsL11Expr r17).bind fun r18 =>
  some (r18.1, GExpr.mk 9 0 r14.2 [reExpr r16.2, reExpr r18.2])
 else
  (rsL11Compare r13.1).bind fun r19 =>
  some (r19.1, reExpr r19.2)
def sL11CompareB (rsL11Expr : GRd -> Option (GRd × GExpr)) (rsL11Compare : GRd -> Option (GRd × GExpr)) (rsL11Sum : GRd -> Option (GRd × GExpr)) (rsL11Product : GRd -> Option (GRd × GExpr)) (rsL11Atom : GRd -> Option (GRd × GExpr)) (rsL11Args : GRd -> Str -> Option (GRd × (List GExpr))) (a : GRd) : Option (GRd × GExpr) :=
 (rsL11Sum a).bind fun r1 =>
 (sL11Sees r1.1 [60]).bind fun r2 =>
 bif r2.2 then
  (rsL11Sum (GRd.mk r2.1.toks (w64 (r2.1.i + 1)) r2.1.stop r2.1.bad)).bind fun r3 =>
  (sL10Op 4 (reExpr r1.2) (reExpr r3.2)).bind fun r4 =>
  some (r3.1, reExpr r4)
 else
  (sL11Sees r2.1 [61, 61]).bind fun r5 =>
  bif r5.2 then
   (rsL11Sum (GRd.mk r5.1.toks (w64 (r5.1.i + 1)) r5.1.stop r5.1.bad)).bind fun r6 =>
   (sL10Op 5 (reExpr r1.2) (reExpr r6.2)).bind fun r7 =>
   some (r6.1, reExpr r7)
  else
   some (r5.1, reExpr r1.2)
def sL11SumB (rsL11Expr : GRd -> Option (GRd × GExpr)) (rsL11Compare : GRd -> Option (GRd × GExpr)) (rsL11Sum : GRd -> Option (GRd × GExpr)) (rsL11Product : GRd -> Option (GRd × GExpr)) (rsL11Atom : GRd -> Option (GRd × GExpr)) (rsL11Args : GRd -> Str -> Option (GRd × (List GExpr))) (a : GRd) : Option (GRd × GExpr) :=
 (rsL11Product a).bind fun r1 =>
 loopD (fun (x2 : (List GToken) × Int × Int × Int × Int × Int × Str × (List GExpr) × Int × Int × Str × (List GExpr)) =>
  (sL11Sees (GRd.mk x2.1 x2.2.1 x2.2.2.1 x2.2.2.2.1) [43]).bind fun r3 =>
  bif r3.2 then
   (sL11Sees r3.1 [45]).bind fun r4 =>
   bif r4.2 then
    (rsL11Product (GRd.mk r4.1.toks (w64 (r4.1.i + 1)) r4.1.stop r4.1.bad)).bind fun r5 =>
    (sL10Op 2 (GExpr.mk x2.2.2.2.2.2.2.2.2.1 x2.2.2.2.2.2.2.2.2.2.1 x2.2.2.2.2.2.2.2.2.2.2.1 x2.2.2.2.2.2.2.2.2.2.2.2) (reExpr r5.2)).bind fun r6 =>
    some (.inl (r5.1.toks, r5.1.i, r5.1.stop, r5.1.bad, x2.2.2.2.2.1, x2.2.2.2.2.2.1, x2.2.2.2.2.2.2.1, x2.2.2.2.2.2.2.2.1, r6.kind, r6.n, r6.text, r6.args))
   else
    (rsL11Product (GRd.mk r4.1.toks (w64 (r4.1.i + 1)) r4.1.stop r4.1.bad)).bind fun r7 =>
    (sL10Op 1 (GExpr.mk x2.2.2.2.2.2.2.2.2.1 x2.2.2.2.2.2.2.2.2.2.1 x2.2.2.2.2.2.2.2.2.2.2.1 x2.2.2.2.2.2.2.2.2.2.2.2) (reExpr r7.2)).bind fun r8 =>
    some (.inl (r7.1.toks, r7.1.i, r7.1.stop, r7.1.bad, x2.2.2.2.2.1, x2.2.2.2.2.2.1, x2.2.2.2.2.2.2.1, x2.2.2.2.2.2.2.2.1, r8.kind, r8.n, r8.text, r8.args))
  else
  (sL11Sees r3.1 [45]).bind fun r9 =>
  bif r9.2 then
   (sL11Sees r9.1 [45]).bind fun r10 =>
   bif r10.2 then
    (rsL11Product (GRd.mk r10.1.toks (w64 (r10.1.i + 1)) r10.1.stop r10.1.bad)).bind fun r11 =>
    (sL10Op 2 (GExpr.mk x2.2.2.2.2.2.2.2.2.1 x2.2.2.2.2.2.2.2.2.2.1 x2.2.2.2.2.2.2.2.2.2.2.1 x2.2.2.2.2.2.2.2.2.2.2.2) (reExpr r11.2)).bind fun r12 =>
    some (.inl (r11.1.toks, r11.1.i, r11.1.stop, r11.1.bad, x2.2.2.2.2.1, x2.2.2.2.2.2.1, x2.2.2.2.2.2.2.1, x2.2.2.2.2.2.2.2.1, r12.kind, r12.n, r12.text, r12.args))
   else
    (rsL11Product (GRd.mk r10.1.toks (w64 (r10.1.i + 1)) r10.1.stop r10.1.bad)).bind fun r13 =>
    (sL10Op 1 (GExpr.mk x2.2.2.2.2.2.2.2.2.1 x2.2.2.2.2.2.2.2.2.2.1 x2.2.2.2.2.2.2.2.2.2.2.1 x2.2.2.2.2.2.2.2.2.2.2.2) (reExpr r13.2)).bind fun r14 =>
    some (.inl (r13.1.toks, r13.1.i, r13.1.stop, r13.1.bad, x2.2.2.2.2.1, x2.2.2.2.2.2.1, x2.2.2.2.2.2.2.1, x2.2.2.2.2.2.2.2.1, r14.kind, r14.n, r14.text, r14.args))
  else
   some (.inr (r9.1, GExpr.mk x2.2.2.2.2.2.2.2.2.1 x2.2.2.2.2.2.2.2.2.2.1 x2.2.2.2.2.2.2.2.2.2.2.1 x2.2.2.2.2.2.2.2.2.2.2.2))
 ) (r1.1.toks, r1.1.i, r1.1.stop, r1.1.bad, 0, 0, [], [], r1.2.kind, r1.2.n, r1.2.text, r1.2.args)
def sL11ProductB (rsL11Expr : GRd -> Option (GRd × GExpr)) (rsL11Compare : GRd -> Option (GRd × GExpr)) (rsL11Sum : GRd -> Option (GRd × GExpr)) (rsL11Product : GRd -> Option (GRd × GExpr)) (rsL11Atom : GRd -> Option (GRd × GExpr)) (rsL11Args : GRd -> Str -> Option (GRd × (List GExpr))) (a : GRd) : Option (GRd × GExpr) :=
 (rsL11Atom a).bind fun r1 =>
 loopD (fun (x2 : (List GToken) × Int × Int × Int × Int × Int × Str × (List GExpr) × Int × Int × Str × (List GExpr)) =>
  (sL11Sees (GRd.mk x2.1 x2.2.1 x2.2.2.1 x2.2.2.2.1) [42]).bind fun r3 =>
  bif r3.2 then
   (rsL11Atom (GRd.mk r3.1.toks (w64 (r3.1.i + 1)) r3.1.stop r3.1.bad)).bind fun r4 =>
   (sL10Op 3 (GExpr.mk x2.2.2.2.2.2.2.2.2.1 x2.2.2.2.2.2.2.2.2.2.1 x2.2.2.2.2.2.2.2.2.2.2.1 x2.2.2.2.2.2.2.2.2.2.2.2) (reExpr r4.2)).bind fun r5 =>
   some (.inl (r4.1.toks, r4.1.i, r4.1.stop, r4.1.bad, x2.2.2.2.2.1, x2.2.2.2.2.2.1, x2.2.2.2.2.2.2.1, x2.2.2.2.2.2.2.2.1, r5.kind, r5.n, r5.text, r5.args))
  else
   some (.inr (r3.1, GExpr.mk x2.2.2.2.2.2.2.2.2.1 x2.2.2.2.2.2.2.2.2.2.1 x2.2.2.2.2.2.2.2.2.2.2.1 x2.2.2.2.2.2.2.2.2.2.2.2))
 ) (r1.1.toks, r1.1.i, r1.1.stop, r1.1.bad, 0, 0, [], [], r1.2.kind, r1.2.n, r1.2.text, r1.2.args)
def sL11AtomB (rsL11Expr : GRd -> Option (GRd × GExpr)) (rsL11Compare : GRd -> Option (GRd × GExpr)) (rsL11Sum : GRd -> Option (GRd × GExpr)) (rsL11Product : GRd -> Option (GRd × GExpr)) (rsL11Atom : GRd -> Option (GRd × GExpr)) (rsL11Args : GRd -> Str -> Option (GRd × (List GExpr))) (a : GRd) : Option (GRd × GExpr) :=
 bif (decide (a.bad >= 0)) then
  (sL11Fail a).bind fun r1 =>
  some (r1.1, reExpr r1.2)
 else
 bif (decide (a.i >= (a.toks.length : Int))) then
  (sL11Fail a).bind fun r2 =>
  some (r2.1, reExpr r2.2)
 else
 (idx a.toks a.i).bind fun e3 =>
 bif (e3.kind == 2) then
  (sL10Num e3.n).bind fun r4 =>
  some (GRd.mk a.toks (w64 (a.i + 1)) a.stop a.bad, reExpr r4)
 else
 bif (e3.kind == 3) then
  some (GRd.mk a.toks (w64 (a.i + 1)) a.stop a.bad, GExpr.mk 2 0 e3.text [])
 else
 bif (e3.kind == 1) then
  (sIsValidName e3.text).bind fun r5 =>
  bif r5 then
   (sL10Name e3.text).bind fun r6 =>
   some (GRd.mk a.toks (w64 (a.i + 1)) a.stop a.bad, reExpr r6)
  else
  bif (e3.kind == 1) then
   (sArgumentCount e3.text).bind fun r7 =>
   bif (decide (r7 >= 0)) then
    (sL11Take (GRd.mk a.toks (w64 (a.i + 1)) a.stop a.bad) [40]).bind fun r8 =>
    (rsL11Args r8 [41]).bind fun r9 =>
    some (r9.1, GExpr.mk 5 0 e3.text r9.2)
   else
   (sIsSymbol e3 [91]).bind fun r10 =>
   bif r10 then
    (rsL11Args (GRd.mk a.toks (w64 (a.i + 1)) a.stop a.bad) [93]).bind fun r11 =>
    some (r11.1, GExpr.mk 4 0 [] r11.2)
   else
    (sIsSymbol e3 [40]).bind fun r12 =>
    bif r12 then
     (rsL11Expr (GRd.mk a.toks (w64 (a.i + 1)) a.stop a.bad)).bind fun r13 =>
     (sL11Take r13.1 [41]).bind fun r14 =>
     some (r14, reExpr r13.2)
    else
     (sL11Fail a).bind fun r15 =>
     some (r15.1, reExpr r15.2)
  else
  (sIsSymbol e3 [91]).bind fun r16 =>
  bif r16 then
   (rsL11Args (GRd.mk a.toks (w64 (a.i + 1)) a.stop a.bad) [93]).bind fun r17 =>
   some (r17.1, GExpr.mk 4 0 [] r17.2)
  else
   (sIsSymbol e3 [40]).bind fun r18 =>
   bif r18 then
    (rsL11Expr (GRd.mk a.toks (w64 (a.i + 1)) a.stop a.bad)).bind fun r19 =>
    (sL11Take r19.1 [41]).bind fun r20 =>
    some (r20, reExpr r19.2)
   else
    (sL11Fail a).bind fun r21 =>
    some (r21.1, reExpr r21.2)
 else
 bif (e3.kind == 1) then
  (sArgumentCount e3.text).bind fun r22 =>
  bif (decide (r22 >= 0)) then
   (sL11Take (GRd.mk a.toks (w64 (a.i + 1)) a.stop a.bad) [40]).bind fun r23 =>
   (rsL11Args r23 [41]).bind fun r24 =>
   some (r24.1, GExpr.mk 5 0 e3.text r24.2)
  else
  (sIsSymbol e3 [91]).bind fun r25 =>
  bif r25 then
   (rsL11Args (GRd.mk a.toks (w64 (a.i + 1)) a.stop a.bad) [93]).bind fun r26 =>
   some (r26.1, GExpr.mk 4 0 [] r26.2)
  else
   (sIsSymbol e3 [40]).bind fun r27 =>
   bif r27 then
    (rsL11Expr (GRd.mk a.toks (w64 (a.i + 1)) a.stop a.bad)).bind fun r28 =>
    (sL11Take r28.1 [41]).bind fun r29 =>
    some (r29, reExpr r28.2)
   else
    (sL11Fail a).bind fun r30 =>
    some (r30.1, reExpr r30.2)
 else
 (sIsSymbol e3 [91]).bind fun r31 =>
 bif r31 then
  (rsL11Args (GRd.mk a.toks (w64 (a.i + 1)) a.stop a.bad) [93]).bind fun r32 =>
  some (r32.1, GExpr.mk 4 0 [] r32.2)
 else
  (sIsSymbol e3 [40]).bind fun r33 =>
  bif r33 then
   (rsL11Expr (GRd.mk a.toks (w64 (a.i + 1)) a.stop a.bad)).bind fun r34 =>
   (sL11Take r34.1 [41]).bind fun r35 =>
   some (r35, reExpr r34.2)
  else
   (sL11Fail a).bind fun r36 =>
   some (r36.1, reExpr r36.2)
def sL11ArgsB (rsL11Expr : GRd -> Option (GRd × GExpr)) (rsL11Compare : GRd -> Option (GRd × GExpr)) (rsL11Sum : GRd -> Option (GRd × GExpr)) (rsL11Product : GRd -> Option (GRd × GExpr)) (rsL11Atom : GRd -> Option (GRd × GExpr)) (rsL11Args : GRd -> Str -> Option (GRd × (List GExpr))) (a : GRd) (b : Str) : Option (GRd × (List GExpr)) :=
 (sL11Sees a b).bind fun r1 =>
 bif r1.2 then
  some (GRd.mk r1.1.toks (w64 (r1.1.i + 1)) r1.1.stop r1.1.bad, [])
 else
 loopD (fun (x2 : (List GToken) × Int × Int × Int × Str × (List GExpr)) =>
  bif (decide (x2.2.2.2.1 < 0)) then
   (rsL11Expr (GRd.mk x2.1 x2.2.1 x2.2.2.1 x2.2.2.2.1)).bind fun r3 =>
   (gd (x2.2.2.2.2.2.length + [reExpr r3.2].length)).bind fun _ =>
   (sL11Sees r3.1 [44]).bind fun r4 =>
   bif (!r4.2) then
    (
     (sL11Take r4.1 x2.2.2.2.2.1).bind fun r5 =>
     some (r5, x2.2.2.2.2.2 ++ [reExpr r3.2])
    ).bind fun r => some (.inr r)
   else
    some (.inl (r4.1.toks, w64 (r4.1.i + 1), r4.1.stop, r4.1.bad, x2.2.2.2.2.1, x2.2.2.2.2.2 ++ [reExpr r3.2]))
  else
   (
    (sL11Take (GRd.mk x2.1 x2.2.1 x2.2.2.1 x2.2.2.2.1) x2.2.2.2.2.1).bind fun r6 =>
    some (r6, x2.2.2.2.2.2)
   ).bind fun r => some (.inr r)
 ) (r1.1.toks, r1.1.i, r1.1.stop, r1.1.bad, b, [])
def sL11ExprG : Nat -> (GRd -> Option (GRd × GExpr)) × (GRd -> Option (GRd × GExpr)) × (GRd -> Option (GRd × GExpr)) × (GRd -> Option (GRd × GExpr)) × (GRd -> Option (GRd × GExpr)) × (GRd -> Str -> Option (GRd × (List GExpr)))
 | 0 => (fun _ => none, fun _ => none, fun _ => none, fun _ => none, fun _ => none, fun _ _ => none)
 | n + 1 => (sL11ExprB (sL11ExprG n).1 (sL11ExprG n).2.1 (sL11ExprG n).2.2.1 (sL11ExprG n).2.2.2.1 (sL11ExprG n).2.2.2.2.1 (sL11ExprG n).2.2.2.2.2, sL11CompareB (sL11ExprG n).1 (sL11ExprG n).2.1 (sL11ExprG n).2.2.1 (sL11ExprG n).2.2.2.1 (sL11ExprG n).2.2.2.2.1 (sL11ExprG n).2.2.2.2.2, sL11SumB (sL11ExprG n).1 (sL11ExprG n).2.1 (sL11ExprG n).2.2.1 (sL11ExprG n).2.2.2.1 (sL11ExprG n).2.2.2.2.1 (sL11ExprG n).2.2.2.2.2, sL11ProductB (sL11ExprG n).1 (sL11ExprG n).2.1 (sL11ExprG n).2.2.1 (sL11ExprG n).2.2.2.1 (sL11ExprG n).2.2.2.2.1 (sL11ExprG n).2.2.2.2.2, sL11AtomB (sL11ExprG n).1 (sL11ExprG n).2.1 (sL11ExprG n).2.2.1 (sL11ExprG n).2.2.2.1 (sL11ExprG n).2.2.2.2.1 (sL11ExprG n).2.2.2.2.2, sL11ArgsB (sL11ExprG n).1 (sL11ExprG n).2.1 (sL11ExprG n).2.2.1 (sL11ExprG n).2.2.2.1 (sL11ExprG n).2.2.2.2.1 (sL11ExprG n).2.2.2.2.2)
def sL11Expr (a : GRd) : Option (GRd × GExpr) := (sL11ExprG (siz a + 1)).1 a
def sL11ExprFS : Fsp := ⟨88, [shT .rd], [shT .rd, shT .expr], false, false, fun x => sL11Expr x⟩
def sL11ExprFSN (n : Nat) : Fsp := ⟨88, [shT .rd], [shT .rd, shT .expr], false, false, fun x => (sL11ExprG n).1 x⟩
def sL11Compare (a : GRd) : Option (GRd × GExpr) := (sL11ExprG (siz a + 1)).2.1 a
def sL11CompareFS : Fsp := ⟨126, [shT .rd], [shT .rd, shT .expr], false, false, fun x => sL11Compare x⟩
def sL11CompareFSN (n : Nat) : Fsp := ⟨126, [shT .rd], [shT .rd, shT .expr], false, false, fun x => (sL11ExprG n).2.1 x⟩
def sL11Sum (a : GRd) : Option (GRd × GExpr) := (sL11ExprG (siz a + 1)).2.2.1 a
def sL11SumFS : Fsp := ⟨176, [shT .rd], [shT .rd, shT .expr], false, false, fun x => sL11Sum x⟩
def sL11SumFSN (n : Nat) : Fsp := ⟨176, [shT .rd], [shT .rd, shT .expr], false, false, fun x => (sL11ExprG n).2.2.1 x⟩
def sL11Product (a : GRd) : Option (GRd × GExpr) := (sL11ExprG (siz a + 1)).2.2.2.1 a
def sL11ProductFS : Fsp := ⟨206, [shT .rd], [shT .rd, shT .expr], false, false, fun x => sL11Product x⟩
def sL11ProductFSN (n : Nat) : Fsp := ⟨206, [shT .rd], [shT .rd, shT .expr], false, false, fun x => (sL11ExprG n).2.2.2.1 x⟩
def sL11Atom (a : GRd) : Option (GRd × GExpr) := (sL11ExprG (siz a + 1)).2.2.2.2.1 a
def sL11AtomFS : Fsp := ⟨231, [shT .rd], [shT .rd, shT .expr], false, false, fun x => sL11Atom x⟩
def sL11AtomFSN (n : Nat) : Fsp := ⟨231, [shT .rd], [shT .rd, shT .expr], false, false, fun x => (sL11ExprG n).2.2.2.2.1 x⟩
def sL11Args (a : GRd) (b : Str) : Option (GRd × (List GExpr)) := (sL11ExprG (siz a + 1)).2.2.2.2.2 a b
def sL11ArgsFS : Fsp := ⟨260, [shT .rd, shF .str], [shT .rd, slF .expr], false, false, fun x => sL11Args x.1 x.2⟩
def sL11ArgsFSN (n : Nat) : Fsp := ⟨260, [shT .rd, shF .str], [shT .rd, slF .expr], false, false, fun x => (sL11ExprG n).2.2.2.2.2 x.1 x.2⟩
def sL10LeftB (rsL10Left : GExpr -> Int -> Option (Int)) (a : GExpr) (b : Int) : Option (Int) :=
 loopD (fun (x1 : Int × Int × Int × Str × (List GExpr) × Int) =>
  bif (decide (x1.2.2.2.2.2 < (x1.2.2.2.2.1.length : Int))) then
   bif (decide (x1.1 >= 0)) then
    (idx x1.2.2.2.2.1 x1.2.2.2.2.2).bind fun e2 =>
    (rsL10Left (reExpr e2) x1.1).bind fun r3 =>
    some (.inl (r3, x1.2.1, x1.2.2.1, x1.2.2.2.1, x1.2.2.2.2.1, w64 (x1.2.2.2.2.2 + 1)))
   else
    some (.inr (x1.1))
  else
   some (.inr (x1.1))
 ) (w64 (b - 1), a.kind, a.n, a.text, a.args, 0)
def sL10LeftG : Nat -> (GExpr -> Int -> Option (Int))
 | 0 => fun _ _ => none
 | n + 1 => sL10LeftB (sL10LeftG n)
def sL10Left (a : GExpr) (b : Int) : Option (Int) := (sL10LeftG (siz a + 1)) a b
def sL10LeftFS : Fsp := ⟨127, [shT .expr, shF .int], [shF .int], true, false, fun x => sL10Left x.1 x.2⟩
def sL10LeftFSN (n : Nat) : Fsp := ⟨127, [shT .expr, shF .int], [shF .int], true, false, fun x => (sL10LeftG n) x.1 x.2⟩
def sL1Max (a : Int) (b : Int) : Option (Int) :=
 bif (decide (a > b)) then
  some (a)
 else
  some (b)
def sL1MaxFS : Fsp := ⟨178, [shF .int, shF .int], [shF .int], true, false, fun x => sL1Max x.1 x.2⟩
def sNestingOfB (rsNestingOf : GExpr -> Option (Int)) (a : GExpr) : Option (Int) :=
 loopD (fun (x1 : Int × Int × Str × (List GExpr) × Int × Int) =>
  bif (decide (x1.2.2.2.2.2 < (x1.2.2.2.1.length : Int))) then
   (idx x1.2.2.2.1 x1.2.2.2.2.2).bind fun e2 =>
   (rsNestingOf (reExpr e2)).bind fun r3 =>
   (sL1Max x1.2.2.2.2.1 r3).bind fun r4 =>
   some (.inl (x1.1, x1.2.1, x1.2.2.1, x1.2.2.2.1, r4, w64 (x1.2.2.2.2.2 + 1)))
  else
   some (.inr (w64 (x1.2.2.2.2.1 + 1)))
 ) (a.kind, a.n, a.text, a.args, 0, 0)
def sNestingOfG : Nat -> (GExpr -> Option (Int))
 | 0 => fun _ => none
 | n + 1 => sNestingOfB (sNestingOfG n)
def sNestingOf (a : GExpr) : Option (Int) := (sNestingOfG (siz a + 1)) a
def sNestingOfFS : Fsp := ⟨128, [shT .expr], [shF .int], true, false, fun x => sNestingOf x⟩
def sNestingOfFSN (n : Nat) : Fsp := ⟨128, [shT .expr], [shF .int], true, false, fun x => (sNestingOfG n) x⟩
def sL10Node (a : GExpr) : Option (Bool) :=
 bif (a.kind == 1) then
  bif ((a.args.length : Int) == 0) then
   bif (a.text == []) then
    (sL1In a.n 0 1000000000).bind fun r1 =>
    some (r1)
   else
    some (false)
  else
   some (false)
 else
 bif (a.kind == 2) then
  bif ((a.args.length : Int) == 0) then
   bif (a.n == 0) then
    (sIsValidText a.text).bind fun r2 =>
    some (r2)
   else
    some (false)
  else
   some (false)
 else
 bif (a.kind == 3) then
  bif ((a.args.length : Int) == 0) then
   bif (a.n == 0) then
    (sIsValidName a.text).bind fun r3 =>
    some (r3)
   else
    some (false)
  else
   some (false)
 else
 bif (a.kind == 4) then
  bif (a.n == 0) then
   bif (a.text == []) then
    some ((decide ((a.args.length : Int) <= 8)))
   else
    some (false)
  else
   some (false)
 else
 bif (a.kind == 5) then
  bif (a.n == 0) then
   (sArgumentCount a.text).bind fun r4 =>
   some (((a.args.length : Int) == r4))
  else
   some (false)
 else
 bif (a.kind == 6) then
  bif (a.text == []) then
   bif ((a.args.length : Int) == 2) then
    (sL1In a.n 1 5).bind fun r5 =>
    some (r5)
   else
    some (false)
  else
   some (false)
 else
 bif (a.kind == 7) then
  bif (a.n == 0) then
   bif ((a.args.length : Int) == 2) then
    (sIsValidName a.text).bind fun r6 =>
    some (r6)
   else
    some (false)
  else
   some (false)
 else
 bif (a.kind == 9) then
  bif (a.n == 0) then
   bif ((a.args.length : Int) == 2) then
    (sIsValidName a.text).bind fun r7 =>
    some (r7)
   else
    some (false)
  else
   some (false)
 else
  bif (a.kind == 8) then
   bif (a.n == 0) then
    bif (a.text == []) then
     some (((a.args.length : Int) == 3))
    else
     some (false)
   else
    some (false)
  else
   some (false)
def sL10NodeFS : Fsp := ⟨179, [shT .expr], [shF .bool], true, false, fun x => sL10Node x⟩
def sL10AllB (rsL10All : GExpr -> Option (Bool)) (a : GExpr) : Option (Bool) :=
 loopD (fun (x1 : Int × Int × Str × (List GExpr) × Int) =>
  bif (decide (x1.2.2.2.2 < (x1.2.2.2.1.length : Int))) then
   (idx x1.2.2.2.1 x1.2.2.2.2).bind fun e2 =>
   (rsL10All (reExpr e2)).bind fun r3 =>
   bif (!r3) then
    some (.inr (false))
   else
    some (.inl (x1.1, x1.2.1, x1.2.2.1, x1.2.2.2.1, w64 (x1.2.2.2.2 + 1)))
  else
   (
    (sL10Node (GExpr.mk x1.1 x1.2.1 x1.2.2.1 x1.2.2.2.1)).bind fun r4 =>
    some (r4)
   ).bind fun r => some (.inr r)
 ) (a.kind, a.n, a.text, a.args, 0)
def sL10AllG : Nat -> (GExpr -> Option (Bool))
 | 0 => fun _ => none
 | n + 1 => sL10AllB (sL10AllG n)
def sL10All (a : GExpr) : Option (Bool) := (sL10AllG (siz a + 1)) a
def sL10AllFS : Fsp := ⟨129, [shT .expr], [shF .bool], true, false, fun x => sL10All x⟩
def sL10AllFSN (n : Nat) : Fsp := ⟨129, [shT .expr], [shF .bool], true, false, fun x => (sL10AllG n) x⟩
def sIsValidExpr (a : GExpr) : Option (Bool) :=
 (sL10Left (reExpr a) 40).bind fun r1 =>
 bif (decide (r1 >= 0)) then
  (sNestingOf (reExpr a)).bind fun r2 =>
  bif (decide (r2 <= 8)) then
   (sL10All (reExpr a)).bind fun r3 =>
   some (r3)
  else
   some (false)
 else
  some (false)
def sIsValidExprFS : Fsp := ⟨90, [shT .expr], [shF .bool], true, false, fun x => sIsValidExpr x⟩
def sParseExpr (a : Str) : Option (GExpr × Int) :=
 (sTokenize a).bind fun r1 =>
 bif (decide (r1.2 >= 0)) then
  some (GExpr.mk 0 0 [] [], r1.2)
 else
 (sL11Expr (GRd.mk r1.1 0 (a.length : Int) (-1))).bind fun r2 =>
 bif (decide (r2.1.bad < 0)) then
  bif (decide (r2.1.i < (r1.1.length : Int))) then
   (sL11Fail r2.1).bind fun r3 =>
   bif (decide (r3.1.bad >= 0)) then
    some (GExpr.mk 0 0 [] [], r3.1.bad)
   else
    (sIsValidExpr (reExpr r2.2)).bind fun r4 =>
    bif (!r4) then
     some (GExpr.mk 0 0 [] [], 0)
    else
     some (reExpr r2.2, (-1))
  else
   bif (decide (r2.1.bad >= 0)) then
    some (GExpr.mk 0 0 [] [], r2.1.bad)
   else
    (sIsValidExpr (reExpr r2.2)).bind fun r5 =>
    bif (!r5) then
     some (GExpr.mk 0 0 [] [], 0)
    else
     some (reExpr r2.2, (-1))
 else
  bif (decide (r2.1.bad >= 0)) then
   some (GExpr.mk 0 0 [] [], r2.1.bad)
  else
   (sIsValidExpr (reExpr r2.2)).bind fun r6 =>
   bif (!r6) then
    some (GExpr.mk 0 0 [] [], 0)
   else
    some (reExpr r2.2, (-1))
def sParseExprFS : Fsp := ⟨56, [shF .str], [shT .expr, shF .int], false, false, fun x => sParseExpr x⟩
def sErrorValue (a : Int) : Option (GVal) :=
 some (GVal.mk 6 a 0 [] [] [] [])
def sErrorValueFS : Fsp := ⟨57, [shF .int], [shT .val], true, false, fun x => sErrorValue x⟩
def sNumberValue (a : Int) : Option (GVal) :=
 some (GVal.mk 1 a 0 [] [] [] [])
def sNumberValueFS : Fsp := ⟨58, [shF .int], [shT .val], true, false, fun x => sNumberValue x⟩
def sL18Parts (a : Str) : Option ((List Str)) :=
 loopD (fun (x1 : Str × (List Str) × Int × Int) =>
  bif (decide ((w64 (x1.2.2.2 + 1)) < (x1.1.length : Int))) then
   (idx x1.1 x1.2.2.2).bind fun c2 =>
   bif ((c2.toNat : Int) == 59) then
    (idx x1.1 (w64 (x1.2.2.2 + 1))).bind fun c3 =>
    bif ((c3.toNat : Int) == 32) then
     (eff.cutL x1.1 (some x1.2.2.1) (some x1.2.2.2)).bind fun r4 =>
     (gd (x1.2.1.length + ([r4] : List Str).length)).bind fun _ =>
     some (.inl (x1.1, x1.2.1 ++ ([r4] : List Str), w64 (x1.2.2.2 + 2), w64 (x1.2.2.2 + 1)))
    else
     some (.inl (x1.1, x1.2.1, x1.2.2.1, w64 (x1.2.2.2 + 1)))
   else
    some (.inl (x1.1, x1.2.1, x1.2.2.1, w64 (x1.2.2.2 + 1)))
  else
   (
    (eff.cutL x1.1 (some x1.2.2.1) none).bind fun r5 =>
    (gd (x1.2.1.length + ([r5] : List Str).length)).bind fun _ =>
    some (x1.2.1 ++ ([r5] : List Str))
   ).bind fun r => some (.inr r)
 ) (a, [], 0, 0)
def sL18PartsFS : Fsp := ⟨91, [shF .str], [slF .str], true, false, fun x => sL18Parts x⟩
def sSplitByte (a : Str) (b : Int) : Option ((List Str)) :=
 loopD (fun (x1 : Str × Int × (List Str) × Int × Int) =>
  bif (decide (x1.2.2.2.2 <= (x1.1.length : Int))) then
   bif (x1.2.2.2.2 == (x1.1.length : Int)) then
    (eff.cutL x1.1 (some x1.2.2.2.1) (some x1.2.2.2.2)).bind fun r2 =>
    (gd (x1.2.2.1.length + ([r2] : List Str).length)).bind fun _ =>
    some (.inl (x1.1, x1.2.1, x1.2.2.1 ++ ([r2] : List Str), w64 (x1.2.2.2.2 + 1), w64 (x1.2.2.2.2 + 1)))
   else
    (idx x1.1 x1.2.2.2.2).bind fun c3 =>
    bif ((c3.toNat : Int) == x1.2.1) then
     (eff.cutL x1.1 (some x1.2.2.2.1) (some x1.2.2.2.2)).bind fun r4 =>
     (gd (x1.2.2.1.length + ([r4] : List Str).length)).bind fun _ =>
     some (.inl (x1.1, x1.2.1, x1.2.2.1 ++ ([r4] : List Str), w64 (x1.2.2.2.2 + 1), w64 (x1.2.2.2.2 + 1)))
    else
     some (.inl (x1.1, x1.2.1, x1.2.2.1, x1.2.2.2.1, w64 (x1.2.2.2.2 + 1)))
  else
   some (.inr (x1.2.2.1))
 ) (a, b, [], 0, 0)
def sSplitByteFS : Fsp := ⟨92, [shF .str, shF .u8], [slF .str], true, false, fun x => sSplitByte x.1 x.2⟩
def sL3Number (a : Int) : Option (Bool) :=
 (sL1In a (-1000000000) 1000000000).bind fun r1 =>
 some (r1)
def sL3NumberFS : Fsp := ⟨131, [shF .int], [shF .bool], true, false, fun x => sL3Number x⟩
def sL18Row (a : Str) (b : Int) : Option ((List Int) × Bool) :=
 (sSplitByte a 32).bind fun r1 =>
 loopD (fun (x2 : Int × (List Int) × (List Str) × Int) =>
  bif (decide (x2.2.2.2 < (x2.2.2.1.length : Int))) then
   (idx x2.2.2.1 x2.2.2.2).bind fun _ =>
   (x2.2.2.1[x2.2.2.2.toNat]?).bind fun e4 =>
   (sParseInt e4).bind fun r5 =>
   bif (!r5.2) then
    some (.inr (x2.2.1, false))
   else
    (sL3Number r5.1).bind fun r6 =>
    bif (!r6) then
     some (.inr (x2.2.1, false))
    else
     (gd (x2.2.1.length + [r5.1].length)).bind fun _ =>
     some (.inl (x2.1, x2.2.1 ++ [r5.1], x2.2.2.1, w64 (x2.2.2.2 + 1)))
  else
   some (.inr (x2.2.1, ((x2.2.1.length : Int) == x2.1)))
 ) (b, [], r1, 0)
def sL18RowFS : Fsp := ⟨93, [shF .str, shF .int], [slF .int, shF .bool], true, false, fun x => sL18Row x.1 x.2⟩
def sAllDistinct (a : List Str) : Option (Bool) :=
 loopD (fun (x1 : (List Str) × Int) =>
  bif (decide (x1.2 < (x1.1.length : Int))) then
   (eff.cutL x1.1 none (some x1.2)).bind fun r2 =>
   (idx x1.1 x1.2).bind fun e3 =>
   (sL1Has r2 e3).bind fun r4 =>
   bif r4 then
    some (.inr (false))
   else
    some (.inl (x1.1, w64 (x1.2 + 1)))
  else
   some (.inr (true))
 ) (a, 0)
def sAllDistinctFS : Fsp := ⟨135, [slF .str], [shF .bool], true, false, fun x => sAllDistinct x⟩
def sL3Columns (a : List Str) : Option (Bool) :=
 loopD (fun (x1 : (List Str) × Int) =>
  bif (decide (x1.2 < (x1.1.length : Int))) then
   (idx x1.1 x1.2).bind fun e2 =>
   (sIsValidName e2).bind fun r3 =>
   bif (!r3) then
    some (.inr (false))
   else
    some (.inl (x1.1, w64 (x1.2 + 1)))
  else
   (
    (sL1In (x1.1.length : Int) 1 4).bind fun r4 =>
    bif r4 then
     (sAllDistinct x1.1).bind fun r5 =>
     some (r5)
    else
     some (false)
   ).bind fun r => some (.inr r)
 ) (a, 0)
def sL3ColumnsFS : Fsp := ⟨95, [slF .str], [shF .bool], true, false, fun x => sL3Columns x⟩
def sL3Before (a : GOrigin) (b : GOrigin) : Option (Bool) :=
 bif (decide (a.cell < b.cell)) then
  some (true)
 else
  bif (a.cell == b.cell) then
   some ((decide (a.row < b.row)))
  else
   some (false)
def sL3BeforeFS : Fsp := ⟨208, [shT .origin, shT .origin], [shF .bool], true, false, fun x => sL3Before x.1 x.2⟩
def sL3Ascending (a : List GOrigin) : Option (Bool) :=
 loopD (fun (x1 : (List GOrigin) × Int) =>
  bif (decide (x1.2 < (x1.1.length : Int))) then
   (idx x1.1 x1.2).bind fun e2 =>
   bif (decide (e2.cell < 0)) then
    some (.inr (false))
   else
   (idx x1.1 x1.2).bind fun e3 =>
   bif (decide (e3.row < 0)) then
    some (.inr (false))
   else
   bif (decide (x1.2 > 0)) then
    (idx x1.1 (w64 (x1.2 - 1))).bind fun e4 =>
    (idx x1.1 x1.2).bind fun e5 =>
    (sL3Before e4 e5).bind fun r6 =>
    bif (!r6) then
     some (.inr (false))
    else
     some (.inl (x1.1, w64 (x1.2 + 1)))
   else
    some (.inl (x1.1, w64 (x1.2 + 1)))
  else
   some (.inr (true))
 ) (a, 0)
def sL3AscendingFS : Fsp := ⟨183, [slF .origin], [shF .bool], true, false, fun x => sL3Ascending x⟩
def sL3Table (a : GVal) : Option (Bool) :=
 (sL3Columns a.columns).bind fun r1 =>
 bif (!r1) then
  some (false)
 else
 bif (decide ((a.rows.length : Int) > 12)) then
  some (false)
 else
 loopD (fun (x2 : Int × Int × Int × Str × (List GVal) × (List Str) × (List GRow) × Int) =>
  bif (decide (x2.2.2.2.2.2.2.2 < (x2.2.2.2.2.2.2.1.length : Int))) then
   (idx x2.2.2.2.2.2.2.1 x2.2.2.2.2.2.2.2).bind fun e3 =>
   bif ((e3.cells.length : Int) != (x2.2.2.2.2.2.1.length : Int)) then
    some (.inr (false))
   else
   (sL3Ascending e3.orig).bind fun r4 =>
   bif (!r4) then
    some (.inr (false))
   else
   loopD (fun (x5 : Int × Int × Int × Str × (List GVal) × (List Str) × (List GRow) × Int × (List Int) × (List GOrigin) × Int) =>
    bif (decide (x5.2.2.2.2.2.2.2.2.2.2 < (x5.2.2.2.2.2.2.2.2.1.length : Int))) then
     (idx x5.2.2.2.2.2.2.2.2.1 x5.2.2.2.2.2.2.2.2.2.2).bind fun e6 =>
     (sL3Number e6).bind fun r7 =>
     bif (!r7) then
      (
       some (.inr (false))
      ).bind fun r => some (.inr r)
     else
      some (.inl (x5.1, x5.2.1, x5.2.2.1, x5.2.2.2.1, x5.2.2.2.2.1, x5.2.2.2.2.2.1, x5.2.2.2.2.2.2.1, x5.2.2.2.2.2.2.2.1, x5.2.2.2.2.2.2.2.2.1, x5.2.2.2.2.2.2.2.2.2.1, w64 (x5.2.2.2.2.2.2.2.2.2.2 + 1)))
    else
     some (.inr (.inl (x5.1, x5.2.1, x5.2.2.1, x5.2.2.2.1, x5.2.2.2.2.1, x5.2.2.2.2.2.1, x5.2.2.2.2.2.2.1, w64 (x5.2.2.2.2.2.2.2.1 + 1))))
   ) (x2.1, x2.2.1, x2.2.2.1, x2.2.2.2.1, x2.2.2.2.2.1, x2.2.2.2.2.2.1, x2.2.2.2.2.2.2.1, x2.2.2.2.2.2.2.2, e3.cells, e3.orig, 0)
  else
   some (.inr (true))
 ) (a.kind, a.n, a.step, a.text, a.list, a.columns, a.rows, 0)
def sL3TableFS : Fsp := ⟨134, [shT .val], [shF .bool], true, false, fun x => sL3Table x⟩
def sIsValidValueP (a : GVal) : Option (Bool) :=
 bif (!(a.text == [])) then
  some (false)
 else
  bif (a.step != 0) then
   some (false)
  else
   bif (a.n == 0) then
    (sL3Table (GVal.mk 5 a.n a.step a.text [] a.columns a.rows)).bind fun r1 =>
    some (r1)
   else
    some (false)
def sIsValidValue (a : GVal) : Option (Bool) := bif (a.kind == 5) && a.list.isEmpty then sIsValidValueP a else none
def sIsValidValueFS : Fsp := ⟨94, [shT .val], [shF .bool], true, false, fun x => sIsValidValue x⟩
def sParseData (a : Str) : Option (GVal × Bool) :=
 (sL18Parts a).bind fun r1 =>
 (idx r1 0).bind fun _ =>
 (r1[0]?).bind fun e3 =>
 (sSplitByte e3 32).bind fun r4 =>
 loopD (fun (x5 : Int × Int × Int × Str × (List GVal) × (List Str) × (List GRow) × (List Str) × Int × Int × Int × Str × (List GVal) × (List Str) × (List GRow) × Int) =>
  bif (decide (x5.2.2.2.2.2.2.2.2.2.2.2.2.2.2.2 < (x5.2.2.2.2.2.2.2.1.length : Int))) then
   (idx x5.2.2.2.2.2.2.2.1 x5.2.2.2.2.2.2.2.2.2.2.2.2.2.2.2).bind fun _ =>
   (x5.2.2.2.2.2.2.2.1[x5.2.2.2.2.2.2.2.2.2.2.2.2.2.2.2.toNat]?).bind fun e7 =>
   (sL18Row e7 (x5.2.2.2.2.2.2.2.2.2.2.2.2.2.1.length : Int)).bind fun r8 =>
   bif (!r8.2) then
    some (.inr (GVal.mk 0 0 0 [] [] [] [], false))
   else
    (gd (x5.2.2.2.2.2.2.2.2.2.2.2.2.2.2.1.length + ([GRow.mk r8.1 []]).length)).bind fun _ =>
    some (.inl (x5.1, x5.2.1, x5.2.2.1, x5.2.2.2.1, x5.2.2.2.2.1, x5.2.2.2.2.2.1, x5.2.2.2.2.2.2.1, x5.2.2.2.2.2.2.2.1, x5.2.2.2.2.2.2.2.2.1, x5.2.2.2.2.2.2.2.2.2.1, x5.2.2.2.2.2.2.2.2.2.2.1, x5.2.2.2.2.2.2.2.2.2.2.2.1, x5.2.2.2.2.2.2.2.2.2.2.2.2.1, x5.2.2.2.2.2.2.2.2.2.2.2.2.2.1, x5.2.2.2.2.2.2.2.2.2.2.2.2.2.2.1 ++ ([GRow.mk r8.1 []]), w64 (x5.2.2.2.2.2.2.2.2.2.2.2.2.2.2.2 + 1)))
  else
   (
    (sIsValidValue (GVal.mk x5.2.2.2.2.2.2.2.2.1 x5.2.2.2.2.2.2.2.2.2.1 x5.2.2.2.2.2.2.2.2.2.2.1 x5.2.2.2.2.2.2.2.2.2.2.2.1 x5.2.2.2.2.2.2.2.2.2.2.2.2.1 x5.2.2.2.2.2.2.2.2.2.2.2.2.2.1 x5.2.2.2.2.2.2.2.2.2.2.2.2.2.2.1)).bind fun r9 =>
    bif (!r9) then
     some (GVal.mk 0 0 0 [] [] [] [], false)
    else
     some (GVal.mk x5.2.2.2.2.2.2.2.2.1 x5.2.2.2.2.2.2.2.2.2.1 x5.2.2.2.2.2.2.2.2.2.2.1 x5.2.2.2.2.2.2.2.2.2.2.2.1 x5.2.2.2.2.2.2.2.2.2.2.2.2.1 x5.2.2.2.2.2.2.2.2.2.2.2.2.2.1 x5.2.2.2.2.2.2.2.2.2.2.2.2.2.2.1, true)
   ).bind fun r => some (.inr r)
 ) (0, 0, 0, [], [], [], [], r1, 5, 0, 0, [], [], r4, [], 1)
def sParseDataFS : Fsp := ⟨59, [shF .str], [shT .val, shF .bool], true, false, fun x => sParseData x⟩
def sDataError (a : Str) : Option (Int) :=
 (sL18Parts a).bind fun r1 =>
 (idx r1 0).bind fun _ =>
 (r1[0]?).bind fun e3 =>
 (sSplitByte e3 32).bind fun r4 =>
 (sL3Columns r4).bind fun r5 =>
 bif (!r5) then
  some (0)
 else
 loopD (fun (x6 : (List Str) × (List Str) × Int) =>
  bif (decide (x6.2.2 < (x6.1.length : Int))) then
   (idx x6.1 x6.2.2).bind fun _ =>
   (x6.1[x6.2.2.toNat]?).bind fun e8 =>
   (sL18Row e8 (x6.2.1.length : Int)).bind fun r9 =>
   bif (!r9.2) then
    some (.inr (x6.2.2))
   else
    bif (decide (x6.2.2 > 12)) then
     some (.inr (x6.2.2))
    else
     some (.inl (x6.1, x6.2.1, w64 (x6.2.2 + 1)))
  else
   some (.inr ((-1)))
 ) (r1, r4, 1)
def sDataErrorFS : Fsp := ⟨60, [shF .str], [shF .int], true, false, fun x => sDataError x⟩
def sL3Row (a : GRow) : Option (GRow) :=
 (gd (0 + a.cells.length)).bind fun _ =>
 (gd (0 + a.orig.length)).bind fun _ =>
 some (GRow.mk ([] ++ a.cells) ([] ++ a.orig))
def sL3RowFS : Fsp := ⟨136, [shT .row], [shT .row], true, false, fun x => sL3Row x⟩
def sL3CopyB (rsL3Copy : GVal -> Option (GVal)) (a : GVal) : Option (GVal) :=
 (gd (0 + a.columns.length)).bind fun _ =>
 loopD (fun (x1 : Int × Int × Int × Str × (List GVal) × (List Str) × (List GRow) × Int × Int × Int × Str × (List GVal) × (List Str) × (List GRow) × Int × Int × Int × Str × (List GVal) × (List Str) × (List GRow) × Int) =>
  bif (decide (x1.2.2.2.2.2.2.2.2.2.2.2.2.2.2.2.2.2.2.2.2.2 < (x1.2.2.2.2.1.length : Int))) then
   (idx x1.2.2.2.2.1 x1.2.2.2.2.2.2.2.2.2.2.2.2.2.2.2.2.2.2.2.2.2).bind fun e2 =>
   (rsL3Copy (reVal e2)).bind fun r3 =>
   (gd (x1.2.2.2.2.2.2.2.2.2.2.2.2.2.2.2.2.2.2.1.length + [reVal r3].length)).bind fun _ =>
   some (.inl (x1.1, x1.2.1, x1.2.2.1, x1.2.2.2.1, x1.2.2.2.2.1, x1.2.2.2.2.2.1, x1.2.2.2.2.2.2.1, x1.2.2.2.2.2.2.2.1, x1.2.2.2.2.2.2.2.2.1, x1.2.2.2.2.2.2.2.2.2.1, x1.2.2.2.2.2.2.2.2.2.2.1, x1.2.2.2.2.2.2.2.2.2.2.2.1, x1.2.2.2.2.2.2.2.2.2.2.2.2.1, x1.2.2.2.2.2.2.2.2.2.2.2.2.2.1, x1.2.2.2.2.2.2.2.2.2.2.2.2.2.2.1, x1.2.2.2.2.2.2.2.2.2.2.2.2.2.2.2.1, x1.2.2.2.2.2.2.2.2.2.2.2.2.2.2.2.2.1, x1.2.2.2.2.2.2.2.2.2.2.2.2.2.2.2.2.2.1, x1.2.2.2.2.2.2.2.2.2.2.2.2.2.2.2.2.2.2.1 ++ [reVal r3], x1.2.2.2.2.2.2.2.2.2.2.2.2.2.2.2.2.2.2.2.1, x1.2.2.2.2.2.2.2.2.2.2.2.2.2.2.2.2.2.2.2.2.1, w64 (x1.2.2.2.2.2.2.2.2.2.2.2.2.2.2.2.2.2.2.2.2.2 + 1)))
  else
   (
    loopD (fun (x4 : Int × Int × Int × Str × (List GVal) × (List Str) × (List GRow) × Int × Int × Int × Str × (List GVal) × (List Str) × (List GRow) × Int × Int × Int × Str × (List GVal) × (List Str) × (List GRow) × Int) =>
     bif (decide (x4.2.2.2.2.2.2.2.2.2.2.2.2.2.2.2.2.2.2.2.2.2 < (x4.2.2.2.2.2.2.1.length : Int))) then
      (idx x4.2.2.2.2.2.2.1 x4.2.2.2.2.2.2.2.2.2.2.2.2.2.2.2.2.2.2.2.2.2).bind fun e5 =>
      (sL3Row e5).bind fun r6 =>
      (gd (x4.2.2.2.2.2.2.2.2.2.2.2.2.2.2.2.2.2.2.2.2.1.length + [r6].length)).bind fun _ =>
      some (.inl (x4.1, x4.2.1, x4.2.2.1, x4.2.2.2.1, x4.2.2.2.2.1, x4.2.2.2.2.2.1, x4.2.2.2.2.2.2.1, x4.2.2.2.2.2.2.2.1, x4.2.2.2.2.2.2.2.2.1, x4.2.2.2.2.2.2.2.2.2.1, x4.2.2.2.2.2.2.2.2.2.2.1, x4.2.2.2.2.2.2.2.2.2.2.2.1, x4.2.2.2.2.2.2.2.2.2.2.2.2.1, x4.2.2.2.2.2.2.2.2.2.2.2.2.2.1, x4.2.2.2.2.2.2.2.2.2.2.2.2.2.2.1, x4.2.2.2.2.2.2.2.2.2.2.2.2.2.2.2.1, x4.2.2.2.2.2.2.2.2.2.2.2.2.2.2.2.2.1, x4.2.2.2.2.2.2.2.2.2.2.2.2.2.2.2.2.2.1, x4.2.2.2.2.2.2.2.2.2.2.2.2.2.2.2.2.2.2.1, x4.2.2.2.2.2.2.2.2.2.2.2.2.2.2.2.2.2.2.2.1, x4.2.2.2.2.2.2.2.2.2.2.2.2.2.2.2.2.2.2.2.2.1 ++ [r6], w64 (x4.2.2.2.2.2.2.2.2.2.2.2.2.2.2.2.2.2.2.2.2.2 + 1)))
     else
      some (.inr (GVal.mk x4.2.2.2.2.2.2.2.2.2.2.2.2.2.2.1 x4.2.2.2.2.2.2.2.2.2.2.2.2.2.2.2.1 x4.2.2.2.2.2.2.2.2.2.2.2.2.2.2.2.2.1 x4.2.2.2.2.2.2.2.2.2.2.2.2.2.2.2.2.2.1 x4.2.2.2.2.2.2.2.2.2.2.2.2.2.2.2.2.2.2.1 x4.2.2.2.2.2.2.2.2.2.2.2.2.2.2.2.2.2.2.2.1 x4.2.2.2.2.2.2.2.2.2.2.2.2.2.2.2.2.2.2.2.2.1))
    ) (x1.1, x1.2.1, x1.2.2.1, x1.2.2.2.1, x1.2.2.2.2.1, x1.2.2.2.2.2.1, x1.2.2.2.2.2.2.1, x1.2.2.2.2.2.2.2.1, x1.2.2.2.2.2.2.2.2.1, x1.2.2.2.2.2.2.2.2.2.1, x1.2.2.2.2.2.2.2.2.2.2.1, x1.2.2.2.2.2.2.2.2.2.2.2.1, x1.2.2.2.2.2.2.2.2.2.2.2.2.1, x1.2.2.2.2.2.2.2.2.2.2.2.2.2.1, x1.2.2.2.2.2.2.2.2.2.2.2.2.2.2.1, x1.2.2.2.2.2.2.2.2.2.2.2.2.2.2.2.1, x1.2.2.2.2.2.2.2.2.2.2.2.2.2.2.2.2.1, x1.2.2.2.2.2.2.2.2.2.2.2.2.2.2.2.2.2.1, x1.2.2.2.2.2.2.2.2.2.2.2.2.2.2.2.2.2.2.1, x1.2.2.2.2.2.2.2.2.2.2.2.2.2.2.2.2.2.2.2.1, x1.2.2.2.2.2.2.2.2.2.2.2.2.2.2.2.2.2.2.2.2.1, 0)
   ).bind fun r => some (.inr r)
 ) (a.kind, a.n, a.step, a.text, a.list, a.columns, a.rows, 0, 0, 0, [], [], [], [], a.kind, a.n, a.step, a.text, [], [] ++ a.columns, [], 0)
def sL3CopyG : Nat -> (GVal -> Option (GVal))
 | 0 => fun _ => none
 | n + 1 => sL3CopyB (sL3CopyG n)
def sL3Copy (a : GVal) : Option (GVal) := (sL3CopyG (siz a + 1)) a
def sL3CopyFS : Fsp := ⟨96, [shT .val], [shT .val], true, false, fun x => sL3Copy x⟩
def sL3CopyFSN (n : Nat) : Fsp := ⟨96, [shT .val], [shT .val], true, false, fun x => (sL3CopyG n) x⟩
def sSourceTable (a : Int) (b : GVal) : Option (GVal) :=
 bif (b.kind != 5) then
  (sErrorValue 4).bind fun r1 =>
  some (reVal r1)
 else
 (sIsValidValue (reVal b)).bind fun r2 =>
 bif (!r2) then
  (sErrorValue 4).bind fun r3 =>
  some (reVal r3)
 else
 bif (decide (a < 0)) then
  (sErrorValue 4).bind fun r4 =>
  some (reVal r4)
 else
  (sL3Copy (reVal b)).bind fun r5 =>
  loopD (fun (x6 : Int × Int × Int × Int × Str × (List GVal) × (List Str) × (List GRow) × Int × Int × Int × Str × (List GVal) × (List Str) × (List GRow) × Int) =>
   bif (decide (x6.2.2.2.2.2.2.2.2.2.2.2.2.2.2.2 < (x6.2.2.2.2.2.2.2.2.2.2.2.2.2.2.1.length : Int))) then
    (idx x6.2.2.2.2.2.2.2.2.2.2.2.2.2.2.1 x6.2.2.2.2.2.2.2.2.2.2.2.2.2.2.2).bind fun _ =>
    (x6.2.2.2.2.2.2.2.2.2.2.2.2.2.2.1[x6.2.2.2.2.2.2.2.2.2.2.2.2.2.2.2.toNat]?).bind fun e8 =>
    some (.inl (x6.1, x6.2.1, x6.2.2.1, x6.2.2.2.1, x6.2.2.2.2.1, x6.2.2.2.2.2.1, x6.2.2.2.2.2.2.1, x6.2.2.2.2.2.2.2.1, x6.2.2.2.2.2.2.2.2.1, x6.2.2.2.2.2.2.2.2.2.1, x6.2.2.2.2.2.2.2.2.2.2.1, x6.2.2.2.2.2.2.2.2.2.2.2.1, x6.2.2.2.2.2.2.2.2.2.2.2.2.1, x6.2.2.2.2.2.2.2.2.2.2.2.2.2.1, x6.2.2.2.2.2.2.2.2.2.2.2.2.2.2.1.set x6.2.2.2.2.2.2.2.2.2.2.2.2.2.2.2.toNat (GRow.mk e8.cells [GOrigin.mk x6.1 x6.2.2.2.2.2.2.2.2.2.2.2.2.2.2.2]), w64 (x6.2.2.2.2.2.2.2.2.2.2.2.2.2.2.2 + 1)))
   else
    some (.inr (GVal.mk x6.2.2.2.2.2.2.2.2.1 x6.2.2.2.2.2.2.2.2.2.1 x6.2.2.2.2.2.2.2.2.2.2.1 x6.2.2.2.2.2.2.2.2.2.2.2.1 x6.2.2.2.2.2.2.2.2.2.2.2.2.1 x6.2.2.2.2.2.2.2.2.2.2.2.2.2.1 x6.2.2.2.2.2.2.2.2.2.2.2.2.2.2.1))
  ) (a, 0, 0, 0, [], [], [], [], r5.kind, r5.n, r5.step, r5.text, r5.list, r5.columns, r5.rows, 0)
def sSourceTableFS : Fsp := ⟨61, [shF .int, shT .val], [shT .val], true, false, fun x => sSourceTable x.1 x.2⟩
def sCompileCell (a : GCell) : Option (GPart) :=
 (sIsValidCell a).bind fun r1 =>
 bif (!r1) then
  some (GPart.mk 0 [] (GExpr.mk 0 0 [] []) (GVal.mk 0 0 0 [] [] [] []) 0)
 else
 bif (a.kind == 2) then
  (sParseExpr a.code).bind fun r2 =>
  bif (decide (r2.2 >= 0)) then
   (sErrorValue 8).bind fun r3 =>
   some (GPart.mk 4 a.name (GExpr.mk 0 0 [] []) (reVal r3) r2.2)
  else
   some (GPart.mk 2 a.name (reExpr r2.1) (GVal.mk 0 0 0 [] [] [] []) 0)
 else
 bif (a.kind == 3) then
  (sNumberValue a.n).bind fun r4 =>
  some (GPart.mk 3 a.name (GExpr.mk 0 0 [] []) (reVal r4) 0)
 else
 bif (a.kind == 4) then
  (sParseData a.code).bind fun r5 =>
  bif (!r5.2) then
   (sErrorValue 8).bind fun r6 =>
   (sDataError a.code).bind fun r7 =>
   some (GPart.mk 4 a.name (GExpr.mk 0 0 [] []) (reVal r6) r7)
  else
   (sSourceTable a.id (reVal r5.1)).bind fun r8 =>
   some (GPart.mk 3 a.name (GExpr.mk 0 0 [] []) (reVal r8) 0)
 else
  some (GPart.mk 1 [] (GExpr.mk 0 0 [] []) (GVal.mk 0 0 0 [] [] [] []) 0)
def sCompileCellFS : Fsp := ⟨35, [shT .cell], [shT .part], false, false, fun x => sCompileCell x⟩
def sCompileAll (a : GNotebook) : Option ((List GPart)) :=
 (sIsValidNotebook a).bind fun r1 =>
 bif (!r1) then
  some ([])
 else
  loopD (fun (x2 : (List GCell) × (List GPart) × Int) =>
   bif (decide (x2.2.2 < (x2.1.length : Int))) then
    (idx x2.1 x2.2.2).bind fun e3 =>
    (sCompileCell e3).bind fun r4 =>
    (gd (x2.2.1.length + [rePart r4].length)).bind fun _ =>
    some (.inl (x2.1, x2.2.1 ++ [rePart r4], w64 (x2.2.2 + 1)))
   else
    some (.inr (x2.2.1))
  ) (a.cells, [], 0)
def sCompileAllFS : Fsp := ⟨17, [shT .notebook], [slF .part], false, true, fun x => sCompileAll x⟩
def sL1HasInt (a : List Int) (b : Int) : Option (Bool) :=
 loopD (fun (x1 : (List Int) × Int × Int) =>
  bif (decide (x1.2.2 < (x1.1.length : Int))) then
   (idx x1.1 x1.2.2).bind fun e2 =>
   bif (e2 == x1.2.1) then
    some (.inr (true))
   else
    some (.inl (x1.1, x1.2.1, w64 (x1.2.2 + 1)))
  else
   some (.inr (false))
 ) (a, b, 0)
def sL1HasIntFS : Fsp := ⟨36, [slF .int, shF .int], [shF .bool], true, false, fun x => sL1HasInt x.1 x.2⟩
def sL23Set (a : List Int) : Option ((List Int)) :=
 loopD (fun (x1 : (List Int) × (List Int) × Int) =>
  bif (decide (x1.2.2 < (x1.1.length : Int))) then
   (idx x1.1 x1.2.2).bind fun e2 =>
   (sL1HasInt x1.2.1 e2).bind fun r3 =>
   bif r3 then
    some (.inl (x1.1, x1.2.1, w64 (x1.2.2 + 1)))
   else
   loopD (fun (x4 : (List Int) × (List Int) × Int × Int) =>
    bif (decide (x4.2.2.2 < (x4.2.1.length : Int))) then
     (idx x4.2.1 x4.2.2.2).bind fun _ =>
     (x4.2.1[x4.2.2.2.toNat]?).bind fun e6 =>
     (idx x4.1 x4.2.2.1).bind fun e7 =>
     bif (decide (e6 < e7)) then
      some (.inl (x4.1, x4.2.1, x4.2.2.1, w64 (x4.2.2.2 + 1)))
     else
      (
       (eff.cutL x4.2.1 none (some x4.2.2.2)).bind fun r8 =>
       (gd (0 + r8.length)).bind fun _ =>
       (idx x4.1 x4.2.2.1).bind fun e9 =>
       (gd (([] ++ r8).length + [e9].length)).bind fun _ =>
       (eff.cutL x4.2.1 (some x4.2.2.2) none).bind fun r10 =>
       (gd ((([] ++ r8) ++ [e9]).length + r10.length)).bind fun _ =>
       some (.inl (x4.1, (([] ++ r8) ++ [e9]) ++ r10, w64 (x4.2.2.1 + 1)))
      ).bind fun r => some (.inr r)
    else
     (
      (eff.cutL x4.2.1 none (some x4.2.2.2)).bind fun r11 =>
      (gd (0 + r11.length)).bind fun _ =>
      (idx x4.1 x4.2.2.1).bind fun e12 =>
      (gd (([] ++ r11).length + [e12].length)).bind fun _ =>
      (eff.cutL x4.2.1 (some x4.2.2.2) none).bind fun r13 =>
      (gd ((([] ++ r11) ++ [e12]).length + r13.length)).bind fun _ =>
      some (.inl (x4.1, (([] ++ r11) ++ [e12]) ++ r13, w64 (x4.2.2.1 + 1)))
     ).bind fun r => some (.inr r)
   ) (x1.1, x1.2.1, x1.2.2, 0)
  else
   some (.inr (x1.2.1))
 ) (a, [], 0)
def sL23SetFS : Fsp := ⟨98, [slF .int], [slF .int], true, false, fun x => sL23Set x⟩
def sSortNames (a : List Str) : Option ((List Str)) :=
 loopD (fun (x1 : (List Str) × (List Str) × Int) =>
  bif (decide (x1.2.2 < (x1.1.length : Int))) then
   loopD (fun (x2 : (List Str) × (List Str) × Int × Int) =>
    bif (decide (x2.2.2.2 < (x2.2.1.length : Int))) then
     (idx x2.2.1 x2.2.2.2).bind fun _ =>
     (x2.2.1[x2.2.2.2.toNat]?).bind fun e4 =>
     (idx x2.1 x2.2.2.1).bind fun e5 =>
     bif (Op.bytesLess e4 e5) then
      some (.inl (x2.1, x2.2.1, x2.2.2.1, w64 (x2.2.2.2 + 1)))
     else
     (
      bif (decide (x2.2.2.2 < (x2.2.1.length : Int))) then
       (idx x2.2.1 x2.2.2.2).bind fun _ =>
       (x2.2.1[x2.2.2.2.toNat]?).bind fun e7 =>
       (idx x2.1 x2.2.2.1).bind fun e8 =>
       bif (e7 == e8) then
        some (.inl (x2.1, x2.2.1, w64 (x2.2.2.1 + 1)))
       else
        (cutAt x2.2.1 x2.2.2.2).bind fun m9 =>
        (gd (0 + (x2.2.1.drop m9).length)).bind fun _ =>
        (cutAt x2.2.1 x2.2.2.2).bind fun m10 =>
        (idx x2.1 x2.2.2.1).bind fun e11 =>
        (gd ((x2.2.1.take m10).length + ([e11] : List Str).length)).bind fun _ =>
        (gd (((x2.2.1.take m10) ++ ([e11] : List Str)).length + ([] ++ (x2.2.1.drop m9)).length)).bind fun _ =>
        some (.inl (x2.1, ((x2.2.1.take m10) ++ ([e11] : List Str)) ++ ([] ++ (x2.2.1.drop m9)), w64 (x2.2.2.1 + 1)))
      else
       (cutAt x2.2.1 x2.2.2.2).bind fun m12 =>
       (gd (0 + (x2.2.1.drop m12).length)).bind fun _ =>
       (cutAt x2.2.1 x2.2.2.2).bind fun m13 =>
       (idx x2.1 x2.2.2.1).bind fun e14 =>
       (gd ((x2.2.1.take m13).length + ([e14] : List Str).length)).bind fun _ =>
       (gd (((x2.2.1.take m13) ++ ([e14] : List Str)).length + ([] ++ (x2.2.1.drop m12)).length)).bind fun _ =>
       some (.inl (x2.1, ((x2.2.1.take m13) ++ ([e14] : List Str)) ++ ([] ++ (x2.2.1.drop m12)), w64 (x2.2.2.1 + 1)))
     ).bind fun r => some (.inr r)
    else
    (
     bif (decide (x2.2.2.2 < (x2.2.1.length : Int))) then
      (idx x2.2.1 x2.2.2.2).bind fun _ =>
      (x2.2.1[x2.2.2.2.toNat]?).bind fun e16 =>
      (idx x2.1 x2.2.2.1).bind fun e17 =>
      bif (e16 == e17) then
       some (.inl (x2.1, x2.2.1, w64 (x2.2.2.1 + 1)))
      else
       (cutAt x2.2.1 x2.2.2.2).bind fun m18 =>
       (gd (0 + (x2.2.1.drop m18).length)).bind fun _ =>
       (cutAt x2.2.1 x2.2.2.2).bind fun m19 =>
       (idx x2.1 x2.2.2.1).bind fun e20 =>
       (gd ((x2.2.1.take m19).length + ([e20] : List Str).length)).bind fun _ =>
       (gd (((x2.2.1.take m19) ++ ([e20] : List Str)).length + ([] ++ (x2.2.1.drop m18)).length)).bind fun _ =>
       some (.inl (x2.1, ((x2.2.1.take m19) ++ ([e20] : List Str)) ++ ([] ++ (x2.2.1.drop m18)), w64 (x2.2.2.1 + 1)))
     else
      (cutAt x2.2.1 x2.2.2.2).bind fun m21 =>
      (gd (0 + (x2.2.1.drop m21).length)).bind fun _ =>
      (cutAt x2.2.1 x2.2.2.2).bind fun m22 =>
      (idx x2.1 x2.2.2.1).bind fun e23 =>
      (gd ((x2.2.1.take m22).length + ([e23] : List Str).length)).bind fun _ =>
      (gd (((x2.2.1.take m22) ++ ([e23] : List Str)).length + ([] ++ (x2.2.1.drop m21)).length)).bind fun _ =>
      some (.inl (x2.1, ((x2.2.1.take m22) ++ ([e23] : List Str)) ++ ([] ++ (x2.2.1.drop m21)), w64 (x2.2.2.1 + 1)))
    ).bind fun r => some (.inr r)
   ) (x1.1, x1.2.1, x1.2.2, 0)
  else
   some (.inr (x1.2.1))
 ) (a, [], 0)
def sSortNamesFS : Fsp := ⟨67, [slF .str], [slF .str], true, false, fun x => sSortNames x⟩
def sL13FreeBL0 (rsL13Free : GExpr -> (List Str) -> Option ((List Str))) : ((List Str) × Int × Int × Str × (List GExpr) × (List Str) × Int) -> Option (((List Str) × Int × Int × Str × (List GExpr) × (List Str) × Int) ⊕ ((List Str))) :=
(fun (x2 : (List Str) × Int × Int × Str × (List GExpr) × (List Str) × Int) =>
   bif (decide (x2.2.2.2.2.2.2 < (x2.2.2.2.2.1.length : Int))) then
    bif (x2.2.1 == 7) then
     bif (decide (x2.2.2.2.2.2.2 > 0)) then
      (gd (0 + x2.1.length)).bind fun _ =>
      (gd (([] ++ x2.1).length + ([x2.2.2.2.1] : List Str).length)).bind fun _ =>
      (idx x2.2.2.2.2.1 x2.2.2.2.2.2.2).bind fun e3 =>
      (rsL13Free (reExpr e3) (([] ++ x2.1) ++ ([x2.2.2.2.1] : List Str))).bind fun r4 =>
      (gd (x2.2.2.2.2.2.1.length + r4.length)).bind fun _ =>
      some (.inl (x2.1, x2.2.1, x2.2.2.1, x2.2.2.2.1, x2.2.2.2.2.1, x2.2.2.2.2.2.1 ++ r4, w64 (x2.2.2.2.2.2.2 + 1)))
     else
      (idx x2.2.2.2.2.1 x2.2.2.2.2.2.2).bind fun e5 =>
      (rsL13Free (reExpr e5) x2.1).bind fun r6 =>
      (gd (x2.2.2.2.2.2.1.length + r6.length)).bind fun _ =>
      some (.inl (x2.1, x2.2.1, x2.2.2.1, x2.2.2.2.1, x2.2.2.2.2.1, x2.2.2.2.2.2.1 ++ r6, w64 (x2.2.2.2.2.2.2 + 1)))
    else
    bif (x2.2.1 == 9) then
     bif (decide (x2.2.2.2.2.2.2 > 0)) then
      (gd (0 + x2.1.length)).bind fun _ =>
      (gd (([] ++ x2.1).length + ([x2.2.2.2.1] : List Str).length)).bind fun _ =>
      (idx x2.2.2.2.2.1 x2.2.2.2.2.2.2).bind fun e7 =>
      (rsL13Free (reExpr e7) (([] ++ x2.1) ++ ([x2.2.2.2.1] : List Str))).bind fun r8 =>
      (gd (x2.2.2.2.2.2.1.length + r8.length)).bind fun _ =>
      some (.inl (x2.1, x2.2.1, x2.2.2.1, x2.2.2.2.1, x2.2.2.2.2.1, x2.2.2.2.2.2.1 ++ r8, w64 (x2.2.2.2.2.2.2 + 1)))
     else
      (idx x2.2.2.2.2.1 x2.2.2.2.2.2.2).bind fun e9 =>
      (rsL13Free (reExpr e9) x2.1).bind fun r10 =>
      (gd (x2.2.2.2.2.2.1.length + r10.length)).bind fun _ =>
      some (.inl (x2.1, x2.2.1, x2.2.2.1, x2.2.2.2.1, x2.2.2.2.2.1, x2.2.2.2.2.2.1 ++ r10, w64 (x2.2.2.2.2.2.2 + 1)))
    else
     (idx x2.2.2.2.2.1 x2.2.2.2.2.2.2).bind fun e11 =>
     (rsL13Free (reExpr e11) x2.1).bind fun r12 =>
     (gd (x2.2.2.2.2.2.1.length + r12.length)).bind fun _ =>
     some (.inl (x2.1, x2.2.1, x2.2.2.1, x2.2.2.2.1, x2.2.2.2.2.1, x2.2.2.2.2.2.1 ++ r12, w64 (x2.2.2.2.2.2.2 + 1)))
   else
    some (.inr (x2.2.2.2.2.2.1))
 )
def sL13FreeB (rsL13Free : GExpr -> (List Str) -> Option ((List Str))) (a : GExpr) (b : List Str) : Option ((List Str)) :=
 bif (a.kind == 3) then
  (sL1Has b a.text).bind fun r1 =>
  bif (!r1) then
   (gd (0 + ([a.text] : List Str).length)).bind fun _ =>
   some ([] ++ ([a.text] : List Str))
  else
  loopD (sL13FreeBL0 rsL13Free) (b, a.kind, a.n, a.text, a.args, [], 0)
 else
 loopD (sL13FreeBL0 rsL13Free) (b, a.kind, a.n, a.text, a.args, [], 0)
def sL13FreeG : Nat -> (GExpr -> (List Str) -> Option ((List Str)))
 | 0 => fun _ _ => none
 | n + 1 => sL13FreeB (sL13FreeG n)
def sL13Free (a : GExpr) (b : List Str) : Option ((List Str)) := (sL13FreeG (siz a + siz b + 1)) a b
def sL13FreeFS : Fsp := ⟨200, [shT .expr, slF .str], [slF .str], true, false, fun x => sL13Free x.1 x.2⟩
def sL13FreeFSN (n : Nat) : Fsp := ⟨200, [shT .expr, slF .str], [slF .str], true, false, fun x => (sL13FreeG n) x.1 x.2⟩
def sFreeNames (a : GExpr) : Option ((List Str)) :=
 (sL13Free (reExpr a) []).bind fun r1 =>
 (sSortNames r1).bind fun r2 =>
 some (r2)
def sFreeNamesFS : Fsp := ⟨166, [shT .expr], [slF .str], true, false, fun x => sFreeNames x⟩
def sUsesOf (a : GPart) : Option ((List Str)) :=
 bif (a.kind != 2) then
  some ([])
 else
  (sFreeNames (reExpr a.expr)).bind fun r1 =>
  some (r1)
def sUsesOfFS : Fsp := ⟨119, [shT .part], [slF .str], true, false, fun x => sUsesOf x⟩
def sDefiners (a : List GPart) (b : Str) : Option ((List Int)) :=
 loopD (fun (x1 : (List GPart) × Str × (List Int) × Int) =>
  bif (decide (x1.2.2.2 < (x1.1.length : Int))) then
   (idx x1.1 x1.2.2.2).bind fun e2 =>
   bif (e2.kind != 1) then
    (idx x1.1 x1.2.2.2).bind fun e3 =>
    bif (e3.name == x1.2.1) then
     (gd (x1.2.2.1.length + [x1.2.2.2].length)).bind fun _ =>
     some (.inl (x1.1, x1.2.1, x1.2.2.1 ++ [x1.2.2.2], w64 (x1.2.2.2 + 1)))
    else
     some (.inl (x1.1, x1.2.1, x1.2.2.1, w64 (x1.2.2.2 + 1)))
   else
    some (.inl (x1.1, x1.2.1, x1.2.2.1, w64 (x1.2.2.2 + 1)))
  else
   some (.inr (x1.2.2.1))
 ) (a, b, [], 0)
def sDefinersFS : Fsp := ⟨66, [slF .part, shF .str], [slF .int], true, false, fun x => sDefiners x.1 x.2⟩
def sResolve (a : List GPart) (b : Str) : Option (Int) :=
 (sDefiners a b).bind fun r1 =>
 bif ((r1.length : Int) == 0) then
  some ((-1))
 else
  bif ((r1.length : Int) == 1) then
   (idx r1 0).bind fun _ =>
   (r1[0]?).bind fun e3 =>
   some (e3)
  else
   some ((-2))
def sResolveFS : Fsp := ⟨120, [slF .part, shF .str], [shF .int], true, false, fun x => sResolve x.1 x.2⟩
def sDirectUses (a : List GPart) (b : Int) : Option ((List Int)) :=
 (sL1In b 0 (w64 ((a.length : Int) - 1))).bind fun r1 =>
 bif (!r1) then
  some ([])
 else
 (idx a b).bind fun e2 =>
 (sUsesOf (rePart e2)).bind fun r3 =>
 loopD (fun (x4 : (List GPart) × (List Int) × (List Str) × Int) =>
  bif (decide (x4.2.2.2 < (x4.2.2.1.length : Int))) then
   (idx x4.2.2.1 x4.2.2.2).bind fun _ =>
   (x4.2.2.1[x4.2.2.2.toNat]?).bind fun e6 =>
   (sResolve x4.1 e6).bind fun r7 =>
   bif (decide (r7 >= 0)) then
    (gd (x4.2.1.length + [r7].length)).bind fun _ =>
    some (.inl (x4.1, x4.2.1 ++ [r7], x4.2.2.1, w64 (x4.2.2.2 + 1)))
   else
    some (.inl (x4.1, x4.2.1, x4.2.2.1, w64 (x4.2.2.2 + 1)))
  else
   (
    (sL23Set x4.2.1).bind fun r8 =>
    some (r8)
   ).bind fun r => some (.inr r)
 ) (a, [], r3, 0)
def sDirectUsesFS : Fsp := ⟨82, [slF .part, shF .int], [slF .int], true, false, fun x => sDirectUses x.1 x.2⟩
def sUsers (a : List GPart) (b : Int) : Option ((List Int)) :=
 loopD (fun (x1 : (List GPart) × Int × (List Int) × Int) =>
  bif (decide (x1.2.2.2 < (x1.1.length : Int))) then
   (sDirectUses x1.1 x1.2.2.2).bind fun r2 =>
   (sL1HasInt r2 x1.2.1).bind fun r3 =>
   bif r3 then
    (gd (x1.2.2.1.length + [x1.2.2.2].length)).bind fun _ =>
    some (.inl (x1.1, x1.2.1, x1.2.2.1 ++ [x1.2.2.2], w64 (x1.2.2.2 + 1)))
   else
    some (.inl (x1.1, x1.2.1, x1.2.2.1, w64 (x1.2.2.2 + 1)))
  else
   some (.inr (x1.2.2.1))
 ) (a, b, [], 0)
def sUsersFS : Fsp := ⟨137, [slF .part, shF .int], [slF .int], true, false, fun x => sUsers x.1 x.2⟩
def sL23Near (a : List GPart) (b : Int) (c : Bool) : Option ((List Int)) :=
 bif c then
  (sUsers a b).bind fun r1 =>
  some (r1)
 else
  (sDirectUses a b).bind fun r2 =>
  some (r2)
def sL23NearFS : Fsp := ⟨97, [slF .part, shF .int, shF .bool], [slF .int], true, false, fun x => sL23Near x.1 x.2.1 x.2.2⟩
def sL23All (a : List GPart) (b : Int) (c : Bool) : Option ((List Int)) :=
 (sL23Near a b c).bind fun r1 =>
 loopD (fun (x2 : (List GPart) × Bool × (List Int) × Int) =>
  bif (decide (x2.2.2.2 < (x2.2.2.1.length : Int))) then
   (idx x2.2.2.1 x2.2.2.2).bind fun _ =>
   (x2.2.2.1[x2.2.2.2.toNat]?).bind fun e4 =>
   (sL23Near x2.1 e4 x2.2.1).bind fun r5 =>
   loopD (fun (x6 : (List GPart) × Bool × (List Int) × Int × (List Int) × Int) =>
    bif (decide (x6.2.2.2.2.2 < (x6.2.2.2.2.1.length : Int))) then
     (idx x6.2.2.2.2.1 x6.2.2.2.2.2).bind fun _ =>
     (x6.2.2.2.2.1[x6.2.2.2.2.2.toNat]?).bind fun e8 =>
     (sL1HasInt x6.2.2.1 e8).bind fun r9 =>
     bif (!r9) then
      (idx x6.2.2.2.2.1 x6.2.2.2.2.2).bind fun _ =>
      (x6.2.2.2.2.1[x6.2.2.2.2.2.toNat]?).bind fun e11 =>
      (gd (x6.2.2.1.length + [e11].length)).bind fun _ =>
      some (.inl (x6.1, x6.2.1, x6.2.2.1 ++ [e11], x6.2.2.2.1, x6.2.2.2.2.1, w64 (x6.2.2.2.2.2 + 1)))
     else
      some (.inl (x6.1, x6.2.1, x6.2.2.1, x6.2.2.2.1, x6.2.2.2.2.1, w64 (x6.2.2.2.2.2 + 1)))
    else
     some (.inr (.inl (x6.1, x6.2.1, x6.2.2.1, w64 (x6.2.2.2.1 + 1))))
   ) (x2.1, x2.2.1, x2.2.2.1, x2.2.2.2, r5, 0)
  else
   (
    (sL23Set x2.2.2.1).bind fun r12 =>
    some (r12)
   ).bind fun r => some (.inr r)
 ) (a, c, r1, 0)
def sL23AllFS : Fsp := ⟨62, [slF .part, shF .int, shF .bool], [slF .int], true, false, fun x => sL23All x.1 x.2.1 x.2.2⟩
def sAllUses (a : List GPart) (b : Int) : Option ((List Int)) :=
 (sL23All a b false).bind fun r1 =>
 some (r1)
def sAllUsesFS : Fsp := ⟨37, [slF .part, shF .int], [slF .int], true, false, fun x => sAllUses x.1 x.2⟩
def sOnCycle (a : List GPart) (b : Int) : Option (Bool) :=
 (sAllUses a b).bind fun r1 =>
 (sL1HasInt r1 b).bind fun r2 =>
 some (r2)
def sOnCycleFS : Fsp := ⟨18, [slF .part, shF .int], [shF .bool], true, false, fun x => sOnCycle x.1 x.2⟩
def sL22Names (a : List GPart) (b : Bool) : Option ((List Str)) :=
 loopD (fun (x1 : (List GPart) × Bool × (List Str) × Int) =>
  bif (decide (x1.2.2.2 < (x1.1.length : Int))) then
   (idx x1.1 x1.2.2.2).bind fun e2 =>
   bif (e2.kind != 1) then
    (idx x1.1 x1.2.2.2).bind fun e3 =>
    (sDefiners x1.1 e3.name).bind fun r4 =>
    bif ((decide ((r4.length : Int) > 1)) == x1.2.1) then
     (idx x1.1 x1.2.2.2).bind fun e5 =>
     (gd (x1.2.2.1.length + ([e5.name] : List Str).length)).bind fun _ =>
     some (.inl (x1.1, x1.2.1, x1.2.2.1 ++ ([e5.name] : List Str), w64 (x1.2.2.2 + 1)))
    else
     some (.inl (x1.1, x1.2.1, x1.2.2.1, w64 (x1.2.2.2 + 1)))
   else
    some (.inl (x1.1, x1.2.1, x1.2.2.1, w64 (x1.2.2.2 + 1)))
  else
   (
    (sSortNames x1.2.2.1).bind fun r6 =>
    some (r6)
   ).bind fun r => some (.inr r)
 ) (a, b, [], 0)
def sL22NamesFS : Fsp := ⟨40, [slF .part, shF .bool], [slF .str], true, false, fun x => sL22Names x.1 x.2⟩
def sDuplicateNames (a : List GPart) : Option ((List Str)) :=
 (sL22Names a true).bind fun r1 =>
 some (r1)
def sDuplicateNamesFS : Fsp := ⟨20, [slF .part], [slF .str], true, false, fun x => sDuplicateNames x⟩
def sIsExportable (a : GNotebook) : Option (Bool) :=
 (sCompileAll a).bind fun r1 =>
 loopD (fun (x2 : (List GCell) × (List GPart) × Int) =>
  bif (decide (x2.2.2 < (x2.2.1.length : Int))) then
   (idx x2.2.1 x2.2.2).bind fun _ =>
   (x2.2.1[x2.2.2.toNat]?).bind fun e4 =>
   bif (e4.kind == 4) then
    some (.inr (false))
   else
    (sOnCycle x2.2.1 x2.2.2).bind fun r5 =>
    bif r5 then
     some (.inr (false))
    else
     some (.inl (x2.1, x2.2.1, w64 (x2.2.2 + 1)))
  else
   (
    (sIsValidNotebook (GNotebook.mk x2.1)).bind fun r6 =>
    bif r6 then
     (sDuplicateNames x2.2.1).bind fun r7 =>
     some (((r7.length : Int) == 0))
    else
     some (false)
   ).bind fun r => some (.inr r)
 ) (a.cells, r1, 0)
def sIsExportableFS : Fsp := ⟨6, [shT .notebook], [shF .bool], true, false, fun x => sIsExportable x⟩
def toCell (a : GCell) : Option (GCell) :=
 some (a)
def toCellFS : Fsp := ⟨41, [shT .cell], [shT .cell], true, false, fun x => toCell x⟩
def toCellS (a : List GCell) : Option ((List GCell)) :=
 (mk (a.length : Int)).bind fun m1 =>
 loopD (fun (x2 : (List GCell) × (List GCell) × Int) =>
  bif (decide (x2.2.2 < (x2.1.length : Int))) then
   (idx x2.1 x2.2.2).bind fun e3 =>
   (toCell e3).bind fun r4 =>
   (idx x2.2.1 x2.2.2).bind fun _ =>
   (x2.2.1[x2.2.2.toNat]?).bind fun e6 =>
   some (.inl (x2.1, x2.2.1.set x2.2.2.toNat r4, w64 (x2.2.2 + 1)))
  else
   some (.inr (x2.2.1))
 ) (a, List.replicate m1 (GCell.mk 0 0 0 [] [] 0), 0)
def toCellSFS : Fsp := ⟨21, [slF .cell], [slF .cell], true, false, fun x => toCellS x⟩
def toNotebook (a : GNotebook) : Option (GNotebook) :=
 (toCellS a.cells).bind fun r1 =>
 some (GNotebook.mk r1)
def toNotebookFS : Fsp := ⟨7, [shT .notebook], [shT .notebook], true, false, fun x => toNotebook x⟩
def iWithin (a : Int) (b : Int) (c : Int) : Option (Bool) :=
 bif (decide (b <= a)) then
  some ((decide (a <= c)))
 else
  some (false)
def iWithinFS : Fsp := ⟨74, [shF .int, shF .int, shF .int], [shF .bool], true, false, fun x => iWithin x.1 x.2.1 x.2.2⟩
def iIsPrintable (a : Str) : Option (Bool) :=
 loopD (fun (x1 : Str × Int) =>
  bif (decide (x1.2 < (x1.1.length : Int))) then
   (idx x1.1 x1.2).bind fun c2 =>
   bif (decide ((c2.toNat : Int) < 32)) then
    some (.inr (false))
   else
    (idx x1.1 x1.2).bind fun c3 =>
    bif (decide ((c3.toNat : Int) > 126)) then
     some (.inr (false))
    else
     some (.inl (x1.1, w64 (x1.2 + 1)))
  else
   some (.inr ((decide ((x1.1.length : Int) <= 120))))
 ) (a, 0)
def iIsPrintableFS : Fsp := ⟨75, [shF .str], [shF .bool], true, false, fun x => iIsPrintable x⟩
def iIsWord (a : Str) : Option (Bool) :=
 loopD (fun (x1 : Str × Int) =>
  bif (decide (x1.2 < (x1.1.length : Int))) then
   (idx x1.1 x1.2).bind fun c2 =>
   bif (decide ((c2.toNat : Int) >= 97)) then
    (idx x1.1 x1.2).bind fun c3 =>
    bif (!(decide ((c3.toNat : Int) <= 122))) then
     bif (x1.2 == 0) then
      some (.inr (false))
     else
      (idx x1.1 x1.2).bind fun c4 =>
      bif (decide ((c4.toNat : Int) < 48)) then
       some (.inr (false))
      else
       (idx x1.1 x1.2).bind fun c5 =>
       bif (decide ((c5.toNat : Int) > 57)) then
        some (.inr (false))
       else
        some (.inl (x1.1, w64 (x1.2 + 1)))
    else
     some (.inl (x1.1, w64 (x1.2 + 1)))
   else
   bif (x1.2 == 0) then
    some (.inr (false))
   else
    (idx x1.1 x1.2).bind fun c6 =>
    bif (decide ((c6.toNat : Int) < 48)) then
     some (.inr (false))
    else
     (idx x1.1 x1.2).bind fun c7 =>
     bif (decide ((c7.toNat : Int) > 57)) then
      some (.inr (false))
     else
      some (.inl (x1.1, w64 (x1.2 + 1)))
  else
   (
    (iWithin (x1.1.length : Int) 1 8).bind fun r8 =>
    some (r8)
   ).bind fun r => some (.inr r)
 ) (a, 0)
def iIsWordFS : Fsp := ⟨110, [shF .str], [shF .bool], true, false, fun x => iIsWord x⟩
def iArgumentCount (a : Str) : Option (Int) :=
 bif (a == [99, 108, 111, 99, 107]) then
  some (0)
 else
 bif (a == [108, 101, 110]) then
  some (1)
 else
 bif (a == [115, 117, 109]) then
  some (1)
 else
 bif (a == [114, 111, 119, 115]) then
  some (1)
 else
 bif (a == [99, 104, 97, 110, 99, 101]) then
  some (1)
 else
 bif (a == [102, 105, 108, 101]) then
  some (1)
 else
 bif (a == [116, 97, 107, 101]) then
  some (2)
 else
 bif (a == [115, 107, 105, 112]) then
  some (2)
 else
 bif (a == [114, 97, 110, 103, 101]) then
  some (2)
 else
 bif (a == [110, 116, 104]) then
  some (2)
 else
 bif (a == [107, 101, 101, 112]) then
  some (2)
 else
 bif (a == [99, 111, 108, 117, 109, 110]) then
  some (2)
 else
 bif (a == [116, 97, 98, 108, 101]) then
  some (2)
 else
 bif (a == [119, 104, 101, 114, 101]) then
  some (3)
 else
  bif (a == [103, 114, 111, 117, 112]) then
   some (3)
  else
   bif (a == [106, 111, 105, 110]) then
    some (3)
   else
    bif (a == [97, 100, 100]) then
     some (4)
    else
     some ((-1))
def iArgumentCountFS : Fsp := ⟨160, [shF .str], [shF .int], true, false, fun x => iArgumentCount x⟩
def iIsReserved (a : Str) : Option (Bool) :=
 bif (a == [108, 101, 116]) then
  some (true)
 else
 bif (a == [105, 110]) then
  some (true)
 else
 bif (a == [105, 102]) then
  some (true)
 else
 bif (a == [116, 104, 101, 110]) then
  some (true)
 else
 bif (a == [101, 108, 115, 101]) then
  some (true)
 else
  bif (a == [102, 111, 114]) then
   some (true)
  else
   bif (a == [100, 111]) then
    some (true)
   else
    (iArgumentCount a).bind fun r1 =>
    some ((decide (r1 >= 0)))
def iIsReservedFS : Fsp := ⟨111, [shF .str], [shF .bool], true, false, fun x => iIsReserved x⟩
def iIsValidName (a : Str) : Option (Bool) :=
 (iIsWord a).bind fun r1 =>
 bif r1 then
  (iIsReserved a).bind fun r2 =>
  some ((!r2))
 else
  some (false)
def iIsValidNameFS : Fsp := ⟨76, [shF .str], [shF .bool], true, false, fun x => iIsValidName x⟩
def iIsValidCell (a : GCell) : Option (Bool) :=
 (iWithin a.id 1 999).bind fun r1 =>
 bif (!r1) then
  some (false)
 else
 (iWithin a.version 1 999).bind fun r2 =>
 bif (!r2) then
  some (false)
 else
 (iIsPrintable a.code).bind fun r3 =>
 bif (!r3) then
  some (false)
 else
 bif (a.kind == 1) then
  bif (a.name == []) then
   some ((a.n == 0))
  else
   some (false)
 else
 bif (a.kind == 2) then
  (iIsValidName a.name).bind fun r4 =>
  bif r4 then
   some ((a.n == 0))
  else
   some (false)
 else
 bif (a.kind == 4) then
  (iIsValidName a.name).bind fun r5 =>
  bif r5 then
   some ((a.n == 0))
  else
   some (false)
 else
 bif (a.kind == 3) then
  (iIsValidName a.name).bind fun r6 =>
  bif r6 then
   bif (a.code == []) then
    (iWithin a.n 0 100).bind fun r7 =>
    some (r7)
   else
    some (false)
  else
   some (false)
 else
  some (false)
def iIsValidCellFS : Fsp := ⟨43, [shT .cell], [shF .bool], true, false, fun x => iIsValidCell x⟩
def iCellIndex (a : GNotebook) (b : Int) : Option (Int) :=
 loopD (fun (x1 : Int × (List GCell) × Int × Int) =>
  bif (decide (x1.2.2.2 < x1.2.2.1)) then
   (idx x1.2.1 x1.2.2.2).bind fun e2 =>
   bif (e2.id == x1.1) then
    some (.inr (x1.2.2.2))
   else
    some (.inl (x1.1, x1.2.1, x1.2.2.1, w64 (x1.2.2.2 + 1)))
  else
   some (.inr ((-1)))
 ) (b, a.cells, (a.cells.length : Int), 0)
def iCellIndexFS : Fsp := ⟨44, [shT .notebook, shF .int], [shF .int], true, false, fun x => iCellIndex x.1 x.2⟩
def iIsValidNotebook (a : GNotebook) : Option (Bool) :=
 loopD (fun (x1 : (List GCell) × (List GCell) × Int × Int) =>
  bif (decide (x1.2.2.2 < x1.2.2.1)) then
   (idx x1.2.1 x1.2.2.2).bind fun e2 =>
   (iIsValidCell e2).bind fun r3 =>
   bif (!r3) then
    some (.inr (false))
   else
    (iCellIndex (GNotebook.mk x1.1) e2.id).bind fun r4 =>
    bif (r4 != x1.2.2.2) then
     some (.inr (false))
    else
     some (.inl (x1.1, x1.2.1, x1.2.2.1, w64 (x1.2.2.2 + 1)))
  else
   some (.inr ((decide ((x1.1.length : Int) <= 8))))
 ) (a.cells, a.cells, (a.cells.length : Int), 0)
def iIsValidNotebookFS : Fsp := ⟨23, [shT .notebook], [shF .bool], true, false, fun x => iIsValidNotebook x⟩
def iNumberValue (a : Int) : Option (GVal) :=
 some (GVal.mk 1 a 0 [] [] [] [])
def iNumberValueFS : Fsp := ⟨68, [shF .int], [shT .val], true, false, fun x => iNumberValue x⟩
def iParse (a : Str) (b c : Int) : Option (Int × Bool) := libParse a b c
def iParseFS : Fsp := ⟨152, [shF .str, shF .int, shF .int], [shF .int, shF .bool], true, false, fun x => iParse x.1 x.2.1 x.2.2⟩
def iIsValidText (a : Str) : Option (Bool) :=
 loopD (fun (x1 : Str × Int) =>
  bif (decide (x1.2 < (x1.1.length : Int))) then
   (idx x1.1 x1.2).bind fun c2 =>
   bif (decide ((c2.toNat : Int) < 32)) then
    some (.inr (false))
   else
    (idx x1.1 x1.2).bind fun c3 =>
    bif (decide ((c3.toNat : Int) > 126)) then
     some (.inr (false))
    else
     (idx x1.1 x1.2).bind fun c4 =>
     bif ((c4.toNat : Int) == 34) then
      some (.inr (false))
     else
      some (.inl (x1.1, w64 (x1.2 + 1)))
  else
   some (.inr ((decide ((x1.1.length : Int) <= 20))))
 ) (a, 0)
def iIsValidTextFS : Fsp := ⟨154, [shF .str], [shF .bool], true, false, fun x => iIsValidText x⟩
def libIndexByteFS : Fsp := ⟨184, [shF .str, shF .u8], [shF .int], true, false, fun x => libIndexByte x.1 x.2⟩
def libHasPrefixFS : Fsp := ⟨185, [shF .str, shF .str], [shF .bool], true, false, fun x => libHasPrefix x.1 x.2⟩
def iTokenAt (a : Str) (b : Int) : Option (GToken × Int × Bool) :=
 (idx a b).bind fun c1 =>
 bif (decide ((c1.toNat : Int) >= 97)) then
  bif (decide ((c1.toNat : Int) <= 122)) then
   loopD (fun (x2 : Str × Int × Int × Int × Int × Str × Int) =>
    bif (decide (x2.2.2.2.2.2.2 < (x2.1.length : Int))) then
     (idx x2.1 x2.2.2.2.2.2.2).bind fun c3 =>
     bif (decide ((c3.toNat : Int) >= 97)) then
      (idx x2.1 x2.2.2.2.2.2.2).bind fun c4 =>
      bif (decide ((c4.toNat : Int) <= 122)) then
       some (.inl (x2.1, x2.2.1, x2.2.2.1, x2.2.2.2.1, x2.2.2.2.2.1, x2.2.2.2.2.2.1, w64 (x2.2.2.2.2.2.2 + 1)))
      else
      (idx x2.1 x2.2.2.2.2.2.2).bind fun c5 =>
      bif (decide ((c5.toNat : Int) >= 48)) then
       (idx x2.1 x2.2.2.2.2.2.2).bind fun c6 =>
       bif (decide ((c6.toNat : Int) <= 57)) then
        some (.inl (x2.1, x2.2.1, x2.2.2.1, x2.2.2.2.1, x2.2.2.2.2.1, x2.2.2.2.2.2.1, w64 (x2.2.2.2.2.2.2 + 1)))
       else
        (
         (eff.cutL x2.1 (some x2.2.1) (some x2.2.2.2.2.2.2)).bind fun r7 =>
         some (GToken.mk 1 0 x2.2.1 r7, x2.2.2.2.2.2.2, (decide ((w64 (x2.2.2.2.2.2.2 - x2.2.1)) <= 8)))
        ).bind fun r => some (.inr r)
      else
       (
        (eff.cutL x2.1 (some x2.2.1) (some x2.2.2.2.2.2.2)).bind fun r8 =>
        some (GToken.mk 1 0 x2.2.1 r8, x2.2.2.2.2.2.2, (decide ((w64 (x2.2.2.2.2.2.2 - x2.2.1)) <= 8)))
       ).bind fun r => some (.inr r)
     else
     (idx x2.1 x2.2.2.2.2.2.2).bind fun c9 =>
     bif (decide ((c9.toNat : Int) >= 48)) then
      (idx x2.1 x2.2.2.2.2.2.2).bind fun c10 =>
      bif (decide ((c10.toNat : Int) <= 57)) then
       some (.inl (x2.1, x2.2.1, x2.2.2.1, x2.2.2.2.1, x2.2.2.2.2.1, x2.2.2.2.2.2.1, w64 (x2.2.2.2.2.2.2 + 1)))
      else
       (
        (eff.cutL x2.1 (some x2.2.1) (some x2.2.2.2.2.2.2)).bind fun r11 =>
        some (GToken.mk 1 0 x2.2.1 r11, x2.2.2.2.2.2.2, (decide ((w64 (x2.2.2.2.2.2.2 - x2.2.1)) <= 8)))
       ).bind fun r => some (.inr r)
     else
      (
       (eff.cutL x2.1 (some x2.2.1) (some x2.2.2.2.2.2.2)).bind fun r12 =>
       some (GToken.mk 1 0 x2.2.1 r12, x2.2.2.2.2.2.2, (decide ((w64 (x2.2.2.2.2.2.2 - x2.2.1)) <= 8)))
      ).bind fun r => some (.inr r)
    else
     (
      (eff.cutL x2.1 (some x2.2.1) (some x2.2.2.2.2.2.2)).bind fun r13 =>
      some (GToken.mk 1 0 x2.2.1 r13, x2.2.2.2.2.2.2, (decide ((w64 (x2.2.2.2.2.2.2 - x2.2.1)) <= 8)))
     ).bind fun r => some (.inr r)
   ) (a, b, 0, 0, 0, [], b)
  else
  bif (decide ((c1.toNat : Int) >= 48)) then
   bif (decide ((c1.toNat : Int) <= 57)) then
    loopD (fun (x14 : Str × Int × Int × Int × Int × Str × Int) =>
     bif (decide (x14.2.2.2.2.2.2 < (x14.1.length : Int))) then
      (idx x14.1 x14.2.2.2.2.2.2).bind fun c15 =>
      bif (decide ((c15.toNat : Int) >= 48)) then
       (idx x14.1 x14.2.2.2.2.2.2).bind fun c16 =>
       bif (decide ((c16.toNat : Int) <= 57)) then
        some (.inl (x14.1, x14.2.1, x14.2.2.1, x14.2.2.2.1, x14.2.2.2.2.1, x14.2.2.2.2.2.1, w64 (x14.2.2.2.2.2.2 + 1)))
       else
        (
         (eff.cutL x14.1 (some x14.2.1) (some x14.2.2.2.2.2.2)).bind fun r17 =>
         (iParse r17 0 1000000000).bind fun r18 =>
         some (GToken.mk 2 r18.1 x14.2.1 [], x14.2.2.2.2.2.2, r18.2)
        ).bind fun r => some (.inr r)
      else
       (
        (eff.cutL x14.1 (some x14.2.1) (some x14.2.2.2.2.2.2)).bind fun r19 =>
        (iParse r19 0 1000000000).bind fun r20 =>
        some (GToken.mk 2 r20.1 x14.2.1 [], x14.2.2.2.2.2.2, r20.2)
       ).bind fun r => some (.inr r)
     else
      (
       (eff.cutL x14.1 (some x14.2.1) (some x14.2.2.2.2.2.2)).bind fun r21 =>
       (iParse r21 0 1000000000).bind fun r22 =>
       some (GToken.mk 2 r22.1 x14.2.1 [], x14.2.2.2.2.2.2, r22.2)
      ).bind fun r => some (.inr r)
    ) (a, b, 0, 0, 0, [], b)
   else
   bif ((c1.toNat : Int) == 34) then
    (eff.cutL a (some (w64 (b + 1))) none).bind fun r23 =>
    (libIndexByte r23 34).bind fun r24 =>
    bif (decide (r24 < 0)) then
     some (GToken.mk 0 0 0 [], 0, false)
    else
     (eff.cutL a (some (w64 (b + 1))) (some (w64 ((w64 (b + 1)) + r24)))).bind fun r25 =>
     (iIsValidText r25).bind fun r26 =>
     some (GToken.mk 3 0 b r25, w64 ((w64 (b + r24)) + 2), r26)
   else
    (eff.cutL a (some b) none).bind fun r27 =>
    (libHasPrefix r27 [61, 61]).bind fun r28 =>
    bif r28 then
     some (GToken.mk 4 0 b [61, 61], w64 (b + 2), true)
    else
     (eff.cutL a (some b) (some (w64 (b + 1)))).bind fun r29 =>
     (libIndexByte [40, 41, 91, 93, 44, 43, 45, 42, 60, 61] (c1.toNat : Int)).bind fun r30 =>
     some (GToken.mk 4 0 b r29, w64 (b + 1), (decide (r30 >= 0)))
  else
  bif ((c1.toNat : Int) == 34) then
   (eff.cutL a (some (w64 (b + 1))) none).bind fun r31 =>
   (libIndexByte r31 34).bind fun r32 =>
   bif (decide (r32 < 0)) then
    some (GToken.mk 0 0 0 [], 0, false)
   else
    (eff.cutL a (some (w64 (b + 1))) (some (w64 ((w64 (b + 1)) + r32)))).bind fun r33 =>
    (iIsValidText r33).bind fun r34 =>
    some (GToken.mk 3 0 b r33, w64 ((w64 (b + r32)) + 2), r34)
  else
   (eff.cutL a (some b) none).bind fun r35 =>
   (libHasPrefix r35 [61, 61]).bind fun r36 =>
   bif r36 then
    some (GToken.mk 4 0 b [61, 61], w64 (b + 2), true)
   else
    (eff.cutL a (some b) (some (w64 (b + 1)))).bind fun r37 =>
    (libIndexByte [40, 41, 91, 93, 44, 43, 45, 42, 60, 61] (c1.toNat : Int)).bind fun r38 =>
    some (GToken.mk 4 0 b r37, w64 (b + 1), (decide (r38 >= 0)))
 else
 bif (decide ((c1.toNat : Int) >= 48)) then
  bif (decide ((c1.toNat : Int) <= 57)) then
   loopD (fun (x39 : Str × Int × Int × Int × Int × Str × Int) =>
    bif (decide (x39.2.2.2.2.2.2 < (x39.1.length : Int))) then
     (idx x39.1 x39.2.2.2.2.2.2).bind fun c40 =>
     bif (decide ((c40.toNat : Int) >= 48)) then
      (idx x39.1 x39.2.2.2.2.2.2).bind fun c41 =>
      bif (decide ((c41.toNat : Int) <= 57)) then
       some (.inl (x39.1, x39.2.1, x39.2.2.1, x39.2.2.2.1, x39.2.2.2.2.1, x39.2.2.2.2.2.1, w64 (x39.2.2.2.2.2.2 + 1)))
      else
       (
        (eff.cutL x39.1 (some x39.2.1) (some x39.2.2.2.2.2.2)).bind fun r42 =>
        (iParse r42 0 1000000000).bind fun r43 =>
        some (GToken.mk 2 r43.1 x39.2.1 [], x39.2.2.2.2.2.2, r43.2)
       ).bind fun r => some (.inr r)
     else
      (
       (eff.cutL x39.1 (some x39.2.1) (some x39.2.2.2.2.2.2)).bind fun r44 =>
       (iParse r44 0 1000000000).bind fun r45 =>
       some (GToken.mk 2 r45.1 x39.2.1 [], x39.2.2.2.2.2.2, r45.2)
      ).bind fun r => some (.inr r)
    else
     (
      (eff.cutL x39.1 (some x39.2.1) (some x39.2.2.2.2.2.2)).bind fun r46 =>
      (iParse r46 0 1000000000).bind fun r47 =>
      some (GToken.mk 2 r47.1 x39.2.1 [], x39.2.2.2.2.2.2, r47.2)
     ).bind fun r => some (.inr r)
   ) (a, b, 0, 0, 0, [], b)
  else
  bif ((c1.toNat : Int) == 34) then
   (eff.cutL a (some (w64 (b + 1))) none).bind fun r48 =>
   (libIndexByte r48 34).bind fun r49 =>
   bif (decide (r49 < 0)) then
    some (GToken.mk 0 0 0 [], 0, false)
   else
    (eff.cutL a (some (w64 (b + 1))) (some (w64 ((w64 (b + 1)) + r49)))).bind fun r50 =>
    (iIsValidText r50).bind fun r51 =>
    some (GToken.mk 3 0 b r50, w64 ((w64 (b + r49)) + 2), r51)
  else
   (eff.cutL a (some b) none).bind fun r52 =>
   (libHasPrefix r52 [61, 61]).bind fun r53 =>
   bif r53 then
    some (GToken.mk 4 0 b [61, 61], w64 (b + 2), true)
   else
    (eff.cutL a (some b) (some (w64 (b + 1)))).bind fun r54 =>
    (libIndexByte [40, 41, 91, 93, 44, 43, 45, 42, 60, 61] (c1.toNat : Int)).bind fun r55 =>
    some (GToken.mk 4 0 b r54, w64 (b + 1), (decide (r55 >= 0)))
 else
 bif ((c1.toNat : Int) == 34) then
  (eff.cutL a (some (w64 (b + 1))) none).bind fun r56 =>
  (libIndexByte r56 34).bind fun r57 =>
  bif (decide (r57 < 0)) then
   some (GToken.mk 0 0 0 [], 0, false)
  else
   (eff.cutL a (some (w64 (b + 1))) (some (w64 ((w64 (b + 1)) + r57)))).bind fun r58 =>
   (iIsValidText r58).bind fun r59 =>
   some (GToken.mk 3 0 b r58, w64 ((w64 (b + r57)) + 2), r59)
 else
  (eff.cutL a (some b) none).bind fun r60 =>
  (libHasPrefix r60 [61, 61]).bind fun r61 =>
  bif r61 then
   some (GToken.mk 4 0 b [61, 61], w64 (b + 2), true)
  else
   (eff.cutL a (some b) (some (w64 (b + 1)))).bind fun r62 =>
   (libIndexByte [40, 41, 91, 93, 44, 43, 45, 42, 60, 61] (c1.toNat : Int)).bind fun r63 =>
   some (GToken.mk 4 0 b r62, w64 (b + 1), (decide (r63 >= 0)))
def iTokenAtFS : Fsp := ⟨140, [shF .str, shF .int], [shT .token, shF .int, shF .bool], true, false, fun x => iTokenAt x.1 x.2⟩
def iTokenize (a : Str) : Option ((List GToken) × Int) :=
 bif (decide ((a.length : Int) > 120)) then
  some ([], 120)
 else
 loopD (fun (x1 : Str × (List GToken) × Int) =>
  bif (decide (x1.2.2 < (x1.1.length : Int))) then
   (idx x1.1 x1.2.2).bind fun c2 =>
   bif ((c2.toNat : Int) == 32) then
    some (.inl (x1.1, x1.2.1, w64 (x1.2.2 + 1)))
   else
    (iTokenAt x1.1 x1.2.2).bind fun r3 =>
    bif (!r3.2.2) then
     some (.inr ([], x1.2.2))
    else
     bif ((x1.2.1.length : Int) == 60) then
      some (.inr ([], x1.2.2))
     else
      (gd (x1.2.1.length + [r3.1].length)).bind fun _ =>
      some (.inl (x1.1, x1.2.1 ++ [r3.1], r3.2.1))
  else
   some (.inr (x1.2.1, (-1)))
 ) (a, [], 0)
def iTokenizeFS : Fsp := ⟨101, [shF .str], [slF .token, shF .int], true, false, fun x => iTokenize x⟩
def iIsKeyword (a : GToken) (b : Str) : Option (Bool) :=
 bif (a.kind == 1) then
  some ((a.text == b))
 else
  some (false)
def iIsKeywordFS : Fsp := ⟨141, [shT .token, shF .str], [shF .bool], true, false, fun x => iIsKeyword x.1 x.2⟩
def iParserNext (a : GPsr) : Option (GPsr × GToken) :=
 bif (decide (a.bad < 0)) then
  bif (decide (a.i < (a.toks.length : Int))) then
   (idx a.toks a.i).bind fun e1 =>
   some (a, e1)
  else
   some (a, GToken.mk 0 0 0 [])
 else
  some (a, GToken.mk 0 0 0 [])
def iParserNextFS : Fsp := ⟨142, [shT .psr], [shT .psr, shT .token], false, false, fun x => iParserNext x⟩
def iParserFail (a : GPsr) : Option (GPsr × GExpr) :=
 bif (decide (a.bad < 0)) then
  some (GPsr.mk a.toks a.i a.i, GExpr.mk 0 0 [] [])
 else
  some (a, GExpr.mk 0 0 [] [])
def iParserFailFS : Fsp := ⟨186, [shT .psr], [shT .psr, shT .expr], false, true, fun x => iParserFail x⟩
def iParserName (a : GPsr) : Option (GPsr × Str) :=
 (iParserNext a).bind fun r1 =>
 bif (r1.2.kind != 1) then
  (iParserFail r1.1).bind fun r2 =>
  some (r2.1, [])
 else
  (iIsValidName r1.2.text).bind fun r3 =>
  bif (!r3) then
   (iParserFail r1.1).bind fun r4 =>
   some (r4.1, [])
  else
   some (GPsr.mk r1.1.toks (w64 (r1.1.i + 1)) r1.1.bad, r1.2.text)
def iParserNameFS : Fsp := ⟨143, [shT .psr], [shT .psr, shF .str], false, false, fun x => iParserName x⟩
def iIsSymbol (a : GToken) (b : Str) : Option (Bool) :=
 bif (a.kind == 4) then
  some ((a.text == b))
 else
  some (false)
def iIsSymbolFS : Fsp := ⟨187, [shT .token, shF .str], [shF .bool], true, false, fun x => iIsSymbol x.1 x.2⟩
def iParserNeed (a : GPsr) (b : Str) : Option (GPsr) :=
 (iParserNext a).bind fun r1 =>
 (iIsKeyword r1.2 b).bind fun r2 =>
 bif r2 then
  some (GPsr.mk r1.1.toks (w64 (r1.1.i + 1)) r1.1.bad)
 else
  (iParserNext r1.1).bind fun r3 =>
  (iIsSymbol r3.2 b).bind fun r4 =>
  bif r4 then
   some (GPsr.mk r3.1.toks (w64 (r3.1.i + 1)) r3.1.bad)
  else
   (iParserFail r3.1).bind fun r5 =>
   some (r5.1)
def iParserNeedFS : Fsp := ⟨144, [shT .psr, shF .str], [shT .psr], false, false, fun x => iParserNeed x.1 x.2⟩
def iParserSymbol (a : GPsr) (b : Str) : Option (GPsr × Bool) :=
 (iParserNext a).bind fun r1 =>
 (iIsSymbol r1.2 b).bind fun r2 =>
 bif r2 then
  some (GPsr.mk r1.1.toks (w64 (r1.1.i + 1)) r1.1.bad, true)
 else
  some (r1.1, false)
def iParserSymbolFS : Fsp := ⟨146, [shT .psr, shF .str], [shT .psr, shF .bool], false, false, fun x => iParserSymbol x.1 x.2⟩
def iOpSymbol (a : Int) : Option (Str) :=
 (iWithin a 1 5).bind fun r1 =>
 bif (!r1) then
  some ([63])
 else
  (idx ([[43], [45], [42], [60], [61, 61]] : List Str) (w64 (a - 1))).bind fun _ =>
  (([[43], [45], [42], [60], [61, 61]] : List Str)[(w64 (a - 1)).toNat]?).bind fun e3 =>
  some (e3)
def iOpSymbolFS : Fsp := ⟨147, [shF .int], [shF .str], true, false, fun x => iOpSymbol x⟩
def iParserExprB (riParserExpr : GPsr -> Option (GPsr × GExpr)) (riParserSum : GPsr -> Option (GPsr × GExpr)) (riParserProduct : GPsr -> Option (GPsr × GExpr)) (riParserAtom : GPsr -> Option (GPsr × GExpr)) (riParserList2 : GPsr -> Str -> Option (GPsr × (List GExpr))) (a : GPsr) : Option (GPsr × GExpr) :=
 (iParserNext a).bind fun r1 =>
 (iIsKeyword r1.2 [108, 101, 116]).bind fun r2 =>
 bif r2 then
  (iParserName (GPsr.mk r1.1.toks (w64 (r1.1.i + 1)) r1.1.bad)).bind fun r3 =>
  (iParserNeed r3.1 [61]).bind fun r4 =>
  (riParserExpr r4).bind fun r5 =>
  (gd ([reExpr r5.2].length)).bind fun _ =>
  (iParserNeed r5.1 [105, 110]).bind fun r6 =>
  (riParserExpr r6).bind fun r7 =>
  (gd ([reExpr r5.2].length + [reExpr r7.2].length)).bind fun _ =>
  some (r7.1, GExpr.mk 7 0 r3.2 ([reExpr r5.2] ++ [reExpr r7.2]))
 else
 (iParserNext r1.1).bind fun r8 =>
 (iIsKeyword r8.2 [105, 102]).bind fun r9 =>
 bif r9 then
  (riParserExpr (GPsr.mk r8.1.toks (w64 (r8.1.i + 1)) r8.1.bad)).bind fun r10 =>
  (gd ([reExpr r10.2].length)).bind fun _ =>
  (iParserNeed r10.1 [116, 104, 101, 110]).bind fun r11 =>
  (riParserExpr r11).bind fun r12 =>
  (gd ([reExpr r10.2].length + [reExpr r12.2].length)).bind fun _ =>
  (iParserNeed r12.1 [101, 108, 115, 101]).bind fun r13 =>
  (riParserExpr r13).bind fun r14 =>
  (gd (([reExpr r10.2] ++ [reExpr r12.2]).length + [reExpr r14.2].length)).bind fun _ =>
  some (r14.1, GExpr.mk 8 0 [] (([reExpr r10.2] ++ [reExpr r12.2]) ++ [reExpr r14.2]))
 else
 (iParserNext r8.1).bind fun r15 =>
 (iIsKeyword r15.2 [102, 111, 114]).bind fun r16 =>
 bif r16 then
  (iParserName (GPsr.mk r15.1.toks (w64 (r15.1.i + 1)) r15.1.bad)).bind fun r17 =>
  (iParserNeed r17.1 [105, 110]).bind fun r18 =>
  (riParserExpr r18).bind fun r19 =>
  (gd ([reExpr r19.2].length)).bind fun _ =>
  (iParserNeed r19.1 [100, 111]).bind fun r20 =>
  (riParserExpr r20).bind fun r21 =>
  (gd ([reExpr r19.2].length + [reExpr r21.2].length)).bind fun _ =>
  some (r21.1, GExpr.mk 9 0 r17.2 ([reExpr r19.2] ++ [reExpr r21.2]))
 else
 (riParserSum r15.1).bind fun r22 =>
 loopD (fun (x23 : (List GToken) × Int × Int × Int × Int × Str × (List GExpr) × Int × Int × Str × (List GExpr) × (List Int) × Int × Int) =>
  bif (decide (x23.2.2.2.2.2.2.2.2.2.2.2.2.2 < x23.2.2.2.2.2.2.2.2.2.2.2.2.1)) then
   (idx x23.2.2.2.2.2.2.2.2.2.2.2.1 x23.2.2.2.2.2.2.2.2.2.2.2.2.2).bind fun _ =>
   (x23.2.2.2.2.2.2.2.2.2.2.2.1[x23.2.2.2.2.2.2.2.2.2.2.2.2.2.toNat]?).bind fun e25 =>
   (iOpSymbol e25).bind fun r26 =>
   (iParserSymbol (GPsr.mk x23.1 x23.2.1 x23.2.2.1) r26).bind fun r27 =>
   bif r27.2 then
    (riParserSum r27.1).bind fun r28 =>
    some (.inr (r28.1, GExpr.mk 6 e25 [] [GExpr.mk x23.2.2.2.2.2.2.2.1 x23.2.2.2.2.2.2.2.2.1 x23.2.2.2.2.2.2.2.2.2.1 x23.2.2.2.2.2.2.2.2.2.2.1, reExpr r28.2]))
   else
    some (.inl (r27.1.toks, r27.1.i, r27.1.bad, x23.2.2.2.1, x23.2.2.2.2.1, x23.2.2.2.2.2.1, x23.2.2.2.2.2.2.1, x23.2.2.2.2.2.2.2.1, x23.2.2.2.2.2.2.2.2.1, x23.2.2.2.2.2.2.2.2.2.1, x23.2.2.2.2.2.2.2.2.2.2.1, x23.2.2.2.2.2.2.2.2.2.2.2.1, x23.2.2.2.2.2.2.2.2.2.2.2.2.1, w64 (x23.2.2.2.2.2.2.2.2.2.2.2.2.2 + 1)))
  else
   some (.inr (GPsr.mk x23.1 x23.2.1 x23.2.2.1, GExpr.mk x23.2.2.2.2.2.2.2.1 x23.2.2.2.2.2.2.2.2.1 x23.2.2.2.2.2.2.2.2.2.1 x23.2.2.2.2.2.2.2.2.2.2.1))
 ) (r22.1.toks, r22.1.i, r22.1.bad, 0, 0, [], [], r22.2.kind, r22.2.n, r22.2.text, r22.2.args, [4, 5], ([4, 5].length : Int), 0)
def iParserSumB (riParserExpr : GPsr -> Option (GPsr × GExpr)) (riParserSum : GPsr -> Option (GPsr × GExpr)) (riParserProduct : GPsr -> Option (GPsr × GExpr)) (riParserAtom : GPsr -> Option (GPsr × GExpr)) (riParserList2 : GPsr -> Str -> Option (GPsr × (List GExpr))) (a : GPsr) : Option (GPsr × GExpr) :=
 (riParserProduct a).bind fun r1 =>
 loopD (fun (x2 : (List GToken) × Int × Int × Int × Int × Str × (List GExpr) × Int × Int × Str × (List GExpr)) =>
  bif (decide (x2.2.2.1 < 0)) then
   (iParserSymbol (GPsr.mk x2.1 x2.2.1 x2.2.2.1) [43]).bind fun r3 =>
   bif (!r3.2) then
    (iParserSymbol r3.1 [45]).bind fun r4 =>
    bif (!r4.2) then
     some (.inr (r4.1, GExpr.mk x2.2.2.2.2.2.2.2.1 x2.2.2.2.2.2.2.2.2.1 x2.2.2.2.2.2.2.2.2.2.1 x2.2.2.2.2.2.2.2.2.2.2))
    else
     (riParserProduct r4.1).bind fun r5 =>
     some (.inl (r5.1.toks, r5.1.i, r5.1.bad, x2.2.2.2.1, x2.2.2.2.2.1, x2.2.2.2.2.2.1, x2.2.2.2.2.2.2.1, 6, 2, [], [GExpr.mk x2.2.2.2.2.2.2.2.1 x2.2.2.2.2.2.2.2.2.1 x2.2.2.2.2.2.2.2.2.2.1 x2.2.2.2.2.2.2.2.2.2.2, reExpr r5.2]))
   else
    (riParserProduct r3.1).bind fun r6 =>
    some (.inl (r6.1.toks, r6.1.i, r6.1.bad, x2.2.2.2.1, x2.2.2.2.2.1, x2.2.2.2.2.2.1, x2.2.2.2.2.2.2.1, 6, 1, [], [GExpr.mk x2.2.2.2.2.2.2.2.1 x2.2.2.2.2.2.2.2.2.1 x2.2.2.2.2.2.2.2.2.2.1 x2.2.2.2.2.2.2.2.2.2.2, reExpr r6.2]))
  else
   some (.inr (GPsr.mk x2.1 x2.2.1 x2.2.2.1, GExpr.mk x2.2.2.2.2.2.2.2.1 x2.2.2.2.2.2.2.2.2.1 x2.2.2.2.2.2.2.2.2.2.1 x2.2.2.2.2.2.2.2.2.2.2))
 ) (r1.1.toks, r1.1.i, r1.1.bad, 0, 0, [], [], r1.2.kind, r1.2.n, r1.2.text, r1.2.args)
def iParserProductB (riParserExpr : GPsr -> Option (GPsr × GExpr)) (riParserSum : GPsr -> Option (GPsr × GExpr)) (riParserProduct : GPsr -> Option (GPsr × GExpr)) (riParserAtom : GPsr -> Option (GPsr × GExpr)) (riParserList2 : GPsr -> Str -> Option (GPsr × (List GExpr))) (a : GPsr) : Option (GPsr × GExpr) :=
 (riParserAtom a).bind fun r1 =>
 loopD (fun (x2 : (List GToken) × Int × Int × Int × Int × Str × (List GExpr) × Int × Int × Str × (List GExpr)) =>
  (iParserSymbol (GPsr.mk x2.1 x2.2.1 x2.2.2.1) [42]).bind fun r3 =>
  bif r3.2 then
   (riParserAtom r3.1).bind fun r4 =>
   some (.inl (r4.1.toks, r4.1.i, r4.1.bad, x2.2.2.2.1, x2.2.2.2.2.1, x2.2.2.2.2.2.1, x2.2.2.2.2.2.2.1, 6, 3, [], [GExpr.mk x2.2.2.2.2.2.2.2.1 x2.2.2.2.2.2.2.2.2.1 x2.2.2.2.2.2.2.2.2.2.1 x2.2.2.2.2.2.2.2.2.2.2, reExpr r4.2]))
  else
   some (.inr (r3.1, GExpr.mk x2.2.2.2.2.2.2.2.1 x2.2.2.2.2.2.2.2.2.1 x2.2.2.2.2.2.2.2.2.2.1 x2.2.2.2.2.2.2.2.2.2.2))
 ) (r1.1.toks, r1.1.i, r1.1.bad, 0, 0, [], [], r1.2.kind, r1.2.n, r1.2.text, r1.2.args)
def iParserAtomB (riParserExpr : GPsr -> Option (GPsr × GExpr)) (riParserSum : GPsr -> Option (GPsr × GExpr)) (riParserProduct : GPsr -> Option (GPsr × GExpr)) (riParserAtom : GPsr -> Option (GPsr × GExpr)) (riParserList2 : GPsr -> Str -> Option (GPsr × (List GExpr))) (a : GPsr) : Option (GPsr × GExpr) :=
 (iParserNext a).bind fun r1 =>
 bif (r1.2.kind == 2) then
  some (GPsr.mk r1.1.toks (w64 (r1.1.i + 1)) r1.1.bad, GExpr.mk 1 r1.2.n [] [])
 else
 bif (r1.2.kind == 3) then
  some (GPsr.mk r1.1.toks (w64 (r1.1.i + 1)) r1.1.bad, GExpr.mk 2 0 r1.2.text [])
 else
 bif (r1.2.kind == 1) then
  (iIsValidName r1.2.text).bind fun r2 =>
  bif r2 then
   some (GPsr.mk r1.1.toks (w64 (r1.1.i + 1)) r1.1.bad, GExpr.mk 3 0 r1.2.text [])
  else
  bif (r1.2.kind == 1) then
   (iArgumentCount r1.2.text).bind fun r3 =>
   bif (decide (r3 >= 0)) then
    (iParserNeed (GPsr.mk r1.1.toks (w64 (r1.1.i + 1)) r1.1.bad) [40]).bind fun r4 =>
    (riParserList2 r4 [41]).bind fun r5 =>
    some (r5.1, GExpr.mk 5 0 r1.2.text r5.2)
   else
   (iParserSymbol r1.1 [91]).bind fun r6 =>
   bif r6.2 then
    (riParserList2 r6.1 [93]).bind fun r7 =>
    some (r7.1, GExpr.mk 4 0 [] r7.2)
   else
    (iParserSymbol r6.1 [40]).bind fun r8 =>
    bif r8.2 then
     (riParserExpr r8.1).bind fun r9 =>
     (iParserNeed r9.1 [41]).bind fun r10 =>
     some (r10, reExpr r9.2)
    else
     (iParserFail r8.1).bind fun r11 =>
     some (r11.1, reExpr r11.2)
  else
  (iParserSymbol r1.1 [91]).bind fun r12 =>
  bif r12.2 then
   (riParserList2 r12.1 [93]).bind fun r13 =>
   some (r13.1, GExpr.mk 4 0 [] r13.2)
  else
   (iParserSymbol r12.1 [40]).bind fun r14 =>
   bif r14.2 then
    (riParserExpr r14.1).bind fun r15 =>
    (iParserNeed r15.1 [41]).bind fun r16 =>
    some (r16, reExpr r15.2)
   else
    (iParserFail r14.1).bind fun r17 =>
    some (r17.1, reExpr r17.2)
 else
 bif (r1.2.kind == 1) then
  (iArgumentCount r1.2.text).bind fun r18 =>
  bif (decide (r18 >= 0)) then
   (iParserNeed (GPsr.mk r1.1.toks (w64 (r1.1.i + 1)) r1.1.bad) [40]).bind fun r19 =>
   (riParserList2 r19 [41]).bind fun r20 =>
   some (r20.1, GExpr.mk 5 0 r1.2.text r20.2)
  else
  (iParserSymbol r1.1 [91]).bind fun r21 =>
  bif r21.2 then
   (riParserList2 r21.1 [93]).bind fun r22 =>
   some (r22.1, GExpr.mk 4 0 [] r22.2)
  else
   (iParserSymbol r21.1 [40]).bind fun r23 =>
   bif r23.2 then
    (riParserExpr r23.1).bind fun r24 =>
    (iParserNeed r24.1 [41]).bind fun r25 =>
    some (r25, reExpr r24.2)
   else
    (iParserFail r23.1).bind fun r26 =>
    some (r26.1, reExpr r26.2)
 else
 (iParserSymbol r1.1 [91]).bind fun r27 =>
 bif r27.2 then
  (riParserList2 r27.1 [93]).bind fun r28 =>
  some (r28.1, GExpr.mk 4 0 [] r28.2)
 else
  (iParserSymbol r27.1 [40]).bind fun r29 =>
  bif r29.2 then
   (riParserExpr r29.1).bind fun r30 =>
   (iParserNeed r30.1 [41]).bind fun r31 =>
   some (r31, reExpr r30.2)
  else
   (iParserFail r29.1).bind fun r32 =>
   some (r32.1, reExpr r32.2)
def iParserList2B (riParserExpr : GPsr -> Option (GPsr × GExpr)) (riParserSum : GPsr -> Option (GPsr × GExpr)) (riParserProduct : GPsr -> Option (GPsr × GExpr)) (riParserAtom : GPsr -> Option (GPsr × GExpr)) (riParserList2 : GPsr -> Str -> Option (GPsr × (List GExpr))) (a : GPsr) (b : Str) : Option (GPsr × (List GExpr)) :=
 (iParserSymbol a b).bind fun r1 =>
 bif r1.2 then
  some (r1.1, [])
 else
 loopD (fun (x2 : (List GToken) × Int × Int × Str × (List GExpr)) =>
  bif (decide (x2.2.2.1 < 0)) then
   (riParserExpr (GPsr.mk x2.1 x2.2.1 x2.2.2.1)).bind fun r3 =>
   (gd (x2.2.2.2.2.length + [reExpr r3.2].length)).bind fun _ =>
   (iParserSymbol r3.1 x2.2.2.2.1).bind fun r4 =>
   bif r4.2 then
    some (.inr (r4.1, x2.2.2.2.2 ++ [reExpr r3.2]))
   else
    (iParserNeed r4.1 [44]).bind fun r5 =>
    some (.inl (r5.toks, r5.i, r5.bad, x2.2.2.2.1, x2.2.2.2.2 ++ [reExpr r3.2]))
  else
   some (.inr (GPsr.mk x2.1 x2.2.1 x2.2.2.1, x2.2.2.2.2))
 ) (r1.1.toks, r1.1.i, r1.1.bad, b, [])
def iParserExprG : Nat -> (GPsr -> Option (GPsr × GExpr)) × (GPsr -> Option (GPsr × GExpr)) × (GPsr -> Option (GPsr × GExpr)) × (GPsr -> Option (GPsr × GExpr)) × (GPsr -> Str -> Option (GPsr × (List GExpr)))
 | 0 => (fun _ => none, fun _ => none, fun _ => none, fun _ => none, fun _ _ => none)
 | n + 1 => (iParserExprB (iParserExprG n).1 (iParserExprG n).2.1 (iParserExprG n).2.2.1 (iParserExprG n).2.2.2.1 (iParserExprG n).2.2.2.2, iParserSumB (iParserExprG n).1 (iParserExprG n).2.1 (iParserExprG n).2.2.1 (iParserExprG n).2.2.2.1 (iParserExprG n).2.2.2.2, iParserProductB (iParserExprG n).1 (iParserExprG n).2.1 (iParserExprG n).2.2.1 (iParserExprG n).2.2.2.1 (iParserExprG n).2.2.2.2, iParserAtomB (iParserExprG n).1 (iParserExprG n).2.1 (iParserExprG n).2.2.1 (iParserExprG n).2.2.2.1 (iParserExprG n).2.2.2.2, iParserList2B (iParserExprG n).1 (iParserExprG n).2.1 (iParserExprG n).2.2.1 (iParserExprG n).2.2.2.1 (iParserExprG n).2.2.2.2)
def iParserExpr (a : GPsr) : Option (GPsr × GExpr) := (iParserExprG (siz a + 1)).1 a
def iParserExprFS : Fsp := ⟨102, [shT .psr], [shT .psr, shT .expr], false, false, fun x => iParserExpr x⟩
def iParserExprFSN (n : Nat) : Fsp := ⟨102, [shT .psr], [shT .psr, shT .expr], false, false, fun x => (iParserExprG n).1 x⟩
def iParserSum (a : GPsr) : Option (GPsr × GExpr) := (iParserExprG (siz a + 1)).2.1 a
def iParserSumFS : Fsp := ⟨145, [shT .psr], [shT .psr, shT .expr], false, false, fun x => iParserSum x⟩
def iParserSumFSN (n : Nat) : Fsp := ⟨145, [shT .psr], [shT .psr, shT .expr], false, false, fun x => (iParserExprG n).2.1 x⟩
def iParserProduct (a : GPsr) : Option (GPsr × GExpr) := (iParserExprG (siz a + 1)).2.2.1 a
def iParserProductFS : Fsp := ⟨188, [shT .psr], [shT .psr, shT .expr], false, false, fun x => iParserProduct x⟩
def iParserProductFSN (n : Nat) : Fsp := ⟨188, [shT .psr], [shT .psr, shT .expr], false, false, fun x => (iParserExprG n).2.2.1 x⟩
def iParserAtom (a : GPsr) : Option (GPsr × GExpr) := (iParserExprG (siz a + 1)).2.2.2.1 a
def iParserAtomFS : Fsp := ⟨211, [shT .psr], [shT .psr, shT .expr], false, false, fun x => iParserAtom x⟩
def iParserAtomFSN (n : Nat) : Fsp := ⟨211, [shT .psr], [shT .psr, shT .expr], false, false, fun x => (iParserExprG n).2.2.2.1 x⟩
def iParserList2 (a : GPsr) (b : Str) : Option (GPsr × (List GExpr)) := (iParserExprG (siz a + 1)).2.2.2.2 a b
def iParserList2FS : Fsp := ⟨233, [shT .psr, shF .str], [shT .psr, slF .expr], false, false, fun x => iParserList2 x.1 x.2⟩
def iParserList2FSN (n : Nat) : Fsp := ⟨233, [shT .psr, shF .str], [shT .psr, slF .expr], false, false, fun x => (iParserExprG n).2.2.2.2 x.1 x.2⟩
def iNodeCountB (riNodeCount : GExpr -> Option (Int)) (a : GExpr) : Option (Int) :=
 loopD (fun (x1 : Int × (List GExpr) × Int × Int) =>
  bif (decide (x1.2.2.2 < x1.2.2.1)) then
   (idx x1.2.1 x1.2.2.2).bind fun e2 =>
   (riNodeCount (reExpr e2)).bind fun r3 =>
   some (.inl (w64 (x1.1 + r3), x1.2.1, x1.2.2.1, w64 (x1.2.2.2 + 1)))
  else
   some (.inr (x1.1))
 ) (1, a.args, (a.args.length : Int), 0)
def iNodeCountG : Nat -> (GExpr -> Option (Int))
 | 0 => fun _ => none
 | n + 1 => iNodeCountB (iNodeCountG n)
def iNodeCount (a : GExpr) : Option (Int) := (iNodeCountG (siz a + 1)) a
def iNodeCountFS : Fsp := ⟨148, [shT .expr], [shF .int], true, false, fun x => iNodeCount x⟩
def iNodeCountFSN (n : Nat) : Fsp := ⟨148, [shT .expr], [shF .int], true, false, fun x => (iNodeCountG n) x⟩
def iNestingOfB (riNestingOf : GExpr -> Option (Int)) (a : GExpr) : Option (Int) :=
 loopD (fun (x1 : Int × (List GExpr) × Int × Int) =>
  bif (decide (x1.2.2.2 < x1.2.2.1)) then
   (idx x1.2.1 x1.2.2.2).bind fun e2 =>
   (riNestingOf (reExpr e2)).bind fun r3 =>
   some (.inl ((if r3 > x1.1 then r3 else x1.1), x1.2.1, x1.2.2.1, w64 (x1.2.2.2 + 1)))
  else
   some (.inr (w64 (x1.1 + 1)))
 ) (0, a.args, (a.args.length : Int), 0)
def iNestingOfG : Nat -> (GExpr -> Option (Int))
 | 0 => fun _ => none
 | n + 1 => iNestingOfB (iNestingOfG n)
def iNestingOf (a : GExpr) : Option (Int) := (iNestingOfG (siz a + 1)) a
def iNestingOfFS : Fsp := ⟨149, [shT .expr], [shF .int], true, false, fun x => iNestingOf x⟩
def iNestingOfFSN (n : Nat) : Fsp := ⟨149, [shT .expr], [shF .int], true, false, fun x => (iNestingOfG n) x⟩
def iIsNode (a : GExpr) : Option (Bool) :=
 bif (a.kind == 1) then
  (iWithin a.n 0 1000000000).bind fun r1 =>
  bif r1 then
   bif (a.text == []) then
    some (((a.args.length : Int) == 0))
   else
    some (false)
  else
   some (false)
 else
 bif (a.kind == 2) then
  bif (a.n == 0) then
   (iIsValidText a.text).bind fun r2 =>
   bif r2 then
    some (((a.args.length : Int) == 0))
   else
    some (false)
  else
   some (false)
 else
 bif (a.kind == 3) then
  bif (a.n == 0) then
   (iIsValidName a.text).bind fun r3 =>
   bif r3 then
    some (((a.args.length : Int) == 0))
   else
    some (false)
  else
   some (false)
 else
 bif (a.kind == 4) then
  bif (a.n == 0) then
   bif (a.text == []) then
    some ((decide ((a.args.length : Int) <= 8)))
   else
    some (false)
  else
   some (false)
 else
 bif (a.kind == 5) then
  bif (a.n == 0) then
   (iArgumentCount a.text).bind fun r4 =>
   some (((a.args.length : Int) == r4))
  else
   some (false)
 else
 bif (a.kind == 6) then
  (iWithin a.n 1 5).bind fun r5 =>
  bif r5 then
   bif (a.text == []) then
    some (((a.args.length : Int) == 2))
   else
    some (false)
  else
   some (false)
 else
 bif (a.kind == 7) then
  bif (a.n == 0) then
   (iIsValidName a.text).bind fun r6 =>
   bif r6 then
    some (((a.args.length : Int) == 2))
   else
    some (false)
  else
   some (false)
 else
 bif (a.kind == 9) then
  bif (a.n == 0) then
   (iIsValidName a.text).bind fun r7 =>
   bif r7 then
    some (((a.args.length : Int) == 2))
   else
    some (false)
  else
   some (false)
 else
  bif (a.kind == 8) then
   bif (a.n == 0) then
    bif (a.text == []) then
     some (((a.args.length : Int) == 3))
    else
     some (false)
   else
    some (false)
  else
   some (false)
def iIsNodeFS : Fsp := ⟨189, [shT .expr], [shF .bool], true, false, fun x => iIsNode x⟩
def iAreNodesB (riAreNodes : GExpr -> Option (Bool)) (a : GExpr) : Option (Bool) :=
 loopD (fun (x1 : Int × Int × Str × (List GExpr) × (List GExpr) × Int × Int) =>
  bif (decide (x1.2.2.2.2.2.2 < x1.2.2.2.2.2.1)) then
   (idx x1.2.2.2.2.1 x1.2.2.2.2.2.2).bind fun e2 =>
   (riAreNodes (reExpr e2)).bind fun r3 =>
   bif (!r3) then
    some (.inr (false))
   else
    some (.inl (x1.1, x1.2.1, x1.2.2.1, x1.2.2.2.1, x1.2.2.2.2.1, x1.2.2.2.2.2.1, w64 (x1.2.2.2.2.2.2 + 1)))
  else
   (
    (iIsNode (GExpr.mk x1.1 x1.2.1 x1.2.2.1 x1.2.2.2.1)).bind fun r4 =>
    some (r4)
   ).bind fun r => some (.inr r)
 ) (a.kind, a.n, a.text, a.args, a.args, (a.args.length : Int), 0)
def iAreNodesG : Nat -> (GExpr -> Option (Bool))
 | 0 => fun _ => none
 | n + 1 => iAreNodesB (iAreNodesG n)
def iAreNodes (a : GExpr) : Option (Bool) := (iAreNodesG (siz a + 1)) a
def iAreNodesFS : Fsp := ⟨150, [shT .expr], [shF .bool], true, false, fun x => iAreNodes x⟩
def iAreNodesFSN (n : Nat) : Fsp := ⟨150, [shT .expr], [shF .bool], true, false, fun x => (iAreNodesG n) x⟩
def iIsValidExpr (a : GExpr) : Option (Bool) :=
 (iNodeCount (reExpr a)).bind fun r1 =>
 bif (decide (r1 <= 40)) then
  (iNestingOf (reExpr a)).bind fun r2 =>
  bif (decide (r2 <= 8)) then
   (iAreNodes (reExpr a)).bind fun r3 =>
   some (r3)
  else
   some (false)
 else
  some (false)
def iIsValidExprFS : Fsp := ⟨103, [shT .expr], [shF .bool], true, false, fun x => iIsValidExpr x⟩
def iParseExpr (a : Str) : Option (GExpr × Int) :=
 (iTokenize a).bind fun r1 =>
 bif (decide (r1.2 >= 0)) then
  some (GExpr.mk 0 0 [] [], r1.2)
 else
 (iParserExpr (GPsr.mk r1.1 0 (-1))).bind fun r2 =>
 bif (decide (r2.1.bad < 0)) then
  bif (decide (r2.1.i < (r1.1.length : Int))) then
   bif (decide (r2.1.i >= (r1.1.length : Int))) then
    some (GExpr.mk 0 0 [] [], (a.length : Int))
   else
   bif (decide (r2.1.i >= 0)) then
    (idx r1.1 r2.1.i).bind fun _ =>
    (r1.1[r2.1.i.toNat]?).bind fun e4 =>
    some (GExpr.mk 0 0 [] [], e4.pos)
   else
    (iIsValidExpr (reExpr r2.2)).bind fun r5 =>
    bif (!r5) then
     some (GExpr.mk 0 0 [] [], 0)
    else
     some (reExpr r2.2, (-1))
  else
  bif (decide (r2.1.bad >= (r1.1.length : Int))) then
   some (GExpr.mk 0 0 [] [], (a.length : Int))
  else
  bif (decide (r2.1.bad >= 0)) then
   (idx r1.1 r2.1.bad).bind fun _ =>
   (r1.1[r2.1.bad.toNat]?).bind fun e7 =>
   some (GExpr.mk 0 0 [] [], e7.pos)
  else
   (iIsValidExpr (reExpr r2.2)).bind fun r8 =>
   bif (!r8) then
    some (GExpr.mk 0 0 [] [], 0)
   else
    some (reExpr r2.2, (-1))
 else
 bif (decide (r2.1.bad >= (r1.1.length : Int))) then
  some (GExpr.mk 0 0 [] [], (a.length : Int))
 else
 bif (decide (r2.1.bad >= 0)) then
  (idx r1.1 r2.1.bad).bind fun _ =>
  (r1.1[r2.1.bad.toNat]?).bind fun e10 =>
  some (GExpr.mk 0 0 [] [], e10.pos)
 else
  (iIsValidExpr (reExpr r2.2)).bind fun r11 =>
  bif (!r11) then
   some (GExpr.mk 0 0 [] [], 0)
  else
   some (reExpr r2.2, (-1))
def iParseExprFS : Fsp := ⟨69, [shF .str], [shT .expr, shF .int], false, false, fun x => iParseExpr x⟩
def iErrorValue (a : Int) : Option (GVal) :=
 some (GVal.mk 6 a 0 [] [] [] [])
def iErrorValueFS : Fsp := ⟨70, [shF .int], [shT .val], true, false, fun x => iErrorValue x⟩
def libSplitFS : Fsp := ⟨104, [shF .str, shF .str], [slF .str], true, false, fun x => libSplit x.1 x.2⟩
def iSplitByte (a : Str) (b : Int) : Option ((List Str)) :=
 (libSplit a (bytesOf [b])).bind fun r1 =>
 some (r1)
def iSplitByteFS : Fsp := ⟨105, [shF .str, shF .u8], [slF .str], true, false, fun x => iSplitByte x.1 x.2⟩
def iDataRow (a : Str) (b : Int) : Option ((List Int) × Bool) :=
 (iSplitByte a 32).bind fun r1 =>
 loopD (fun (x2 : Int × (List Int) × (List Str) × Int × Int) =>
  bif (decide (x2.2.2.2.2 < x2.2.2.2.1)) then
   (idx x2.2.2.1 x2.2.2.2.2).bind fun _ =>
   (x2.2.2.1[x2.2.2.2.2.toNat]?).bind fun e4 =>
   (iParse e4 (-1000000000) 1000000000).bind fun r5 =>
   bif (!r5.2) then
    some (.inr ([], false))
   else
    (gd (x2.2.1.length + [r5.1].length)).bind fun _ =>
    some (.inl (x2.1, x2.2.1 ++ [r5.1], x2.2.2.1, x2.2.2.2.1, w64 (x2.2.2.2.2 + 1)))
  else
   some (.inr (x2.2.1, ((x2.2.1.length : Int) == x2.1)))
 ) (b, [], r1, (r1.length : Int), 0)
def iDataRowFS : Fsp := ⟨106, [shF .str, shF .int], [slF .int, shF .bool], true, false, fun x => iDataRow x.1 x.2⟩
def iIndexOf (a : List Str) (b : Str) : Option (Int) :=
 loopD (fun (x1 : Str × (List Str) × Int × Int) =>
  bif (decide (x1.2.2.2 < x1.2.2.1)) then
   (idx x1.2.1 x1.2.2.2).bind fun e2 =>
   bif (e2 == x1.1) then
    some (.inr (x1.2.2.2))
   else
    some (.inl (x1.1, x1.2.1, x1.2.2.1, w64 (x1.2.2.2 + 1)))
  else
   some (.inr ((-1)))
 ) (b, a, (a.length : Int), 0)
def iIndexOfFS : Fsp := ⟨112, [slF .str, shF .str], [shF .int], true, false, fun x => iIndexOf x.1 x.2⟩
def iAllDistinct (a : List Str) : Option (Bool) :=
 loopD (fun (x1 : (List Str) × (List Str) × Int × Int) =>
  bif (decide (x1.2.2.2 < x1.2.2.1)) then
   (idx x1.2.1 x1.2.2.2).bind fun e2 =>
   (iIndexOf x1.1 e2).bind fun r3 =>
   bif (r3 != x1.2.2.2) then
    some (.inr (false))
   else
    some (.inl (x1.1, x1.2.1, x1.2.2.1, w64 (x1.2.2.2 + 1)))
  else
   some (.inr (true))
 ) (a, a, (a.length : Int), 0)
def iAllDistinctFS : Fsp := ⟨157, [slF .str], [shF .bool], true, false, fun x => iAllDistinct x⟩
def iAreColumns (a : List Str) : Option (Bool) :=
 loopD (fun (x1 : (List Str) × (List Str) × Int × Int) =>
  bif (decide (x1.2.2.2 < x1.2.2.1)) then
   (idx x1.2.1 x1.2.2.2).bind fun e2 =>
   (iIsValidName e2).bind fun r3 =>
   bif (!r3) then
    some (.inr (false))
   else
    some (.inl (x1.1, x1.2.1, x1.2.2.1, w64 (x1.2.2.2 + 1)))
  else
   (
    (iWithin (x1.1.length : Int) 1 4).bind fun r4 =>
    bif r4 then
     (iAllDistinct x1.1).bind fun r5 =>
     some (r5)
    else
     some (false)
   ).bind fun r => some (.inr r)
 ) (a, a, (a.length : Int), 0)
def iAreColumnsFS : Fsp := ⟨108, [slF .str], [shF .bool], true, false, fun x => iAreColumns x⟩
def iIsNumber (a : Int) : Option (Bool) :=
 (iWithin a (-1000000000) 1000000000).bind fun r1 =>
 some (r1)
def iIsNumberFS : Fsp := ⟨153, [shF .int], [shF .bool], true, false, fun x => iIsNumber x⟩
def iOriginBefore (a : GOrigin) (b : GOrigin) : Option (Bool) :=
 bif (decide (a.cell < b.cell)) then
  some (true)
 else
  bif (a.cell == b.cell) then
   some ((decide (a.row < b.row)))
  else
   some (false)
def iOriginBeforeFS : Fsp := ⟨194, [shT .origin, shT .origin], [shF .bool], true, false, fun x => iOriginBefore x.1 x.2⟩
def iIsTable (a : GVal) : Option (Bool) :=
 (iAreColumns a.columns).bind fun r1 =>
 bif (!r1) then
  some (false)
 else
 bif (decide ((a.rows.length : Int) > 12)) then
  some (false)
 else
 loopD (fun (x2 : Int × Int × Int × Str × (List GVal) × (List Str) × (List GRow) × (List GRow) × Int × Int) =>
  bif (decide (x2.2.2.2.2.2.2.2.2.2 < x2.2.2.2.2.2.2.2.2.1)) then
   (idx x2.2.2.2.2.2.2.2.1 x2.2.2.2.2.2.2.2.2.2).bind fun e3 =>
   bif ((e3.cells.length : Int) != (x2.2.2.2.2.2.1.length : Int)) then
    some (.inr (false))
   else
   loopD (fun (x4 : Int × Int × Int × Str × (List GVal) × (List Str) × (List GRow) × (List Int) × (List GOrigin) × (List GRow) × Int × Int × (List Int) × Int × Int) =>
    bif (decide (x4.2.2.2.2.2.2.2.2.2.2.2.2.2.2 < x4.2.2.2.2.2.2.2.2.2.2.2.2.2.1)) then
     (idx x4.2.2.2.2.2.2.2.2.2.2.2.2.1 x4.2.2.2.2.2.2.2.2.2.2.2.2.2.2).bind fun e5 =>
     (iIsNumber e5).bind fun r6 =>
     bif (!r6) then
      (
       some (.inr (false))
      ).bind fun r => some (.inr r)
     else
      some (.inl (x4.1, x4.2.1, x4.2.2.1, x4.2.2.2.1, x4.2.2.2.2.1, x4.2.2.2.2.2.1, x4.2.2.2.2.2.2.1, x4.2.2.2.2.2.2.2.1, x4.2.2.2.2.2.2.2.2.1, x4.2.2.2.2.2.2.2.2.2.1, x4.2.2.2.2.2.2.2.2.2.2.1, x4.2.2.2.2.2.2.2.2.2.2.2.1, x4.2.2.2.2.2.2.2.2.2.2.2.2.1, x4.2.2.2.2.2.2.2.2.2.2.2.2.2.1, w64 (x4.2.2.2.2.2.2.2.2.2.2.2.2.2.2 + 1)))
    else
    (
     loopD (fun (x7 : Int × Int × Int × Str × (List GVal) × (List Str) × (List GRow) × (List Int) × (List GOrigin) × (List GRow) × Int × Int × (List GOrigin) × Int × Int) =>
      bif (decide (x7.2.2.2.2.2.2.2.2.2.2.2.2.2.2 < x7.2.2.2.2.2.2.2.2.2.2.2.2.2.1)) then
       (idx x7.2.2.2.2.2.2.2.2.2.2.2.2.1 x7.2.2.2.2.2.2.2.2.2.2.2.2.2.2).bind fun e8 =>
       bif (decide (e8.cell < 0)) then
        (
         some (.inr (false))
        ).bind fun r => some (.inr r)
       else
       bif (decide (e8.row < 0)) then
        (
         some (.inr (false))
        ).bind fun r => some (.inr r)
       else
        bif (decide (x7.2.2.2.2.2.2.2.2.2.2.2.2.2.2 > 0)) then
         (idx x7.2.2.2.2.2.2.2.2.1 (w64 (x7.2.2.2.2.2.2.2.2.2.2.2.2.2.2 - 1))).bind fun e9 =>
         (iOriginBefore e9 e8).bind fun r10 =>
         bif (!r10) then
          (
           some (.inr (false))
          ).bind fun r => some (.inr r)
         else
          some (.inl (x7.1, x7.2.1, x7.2.2.1, x7.2.2.2.1, x7.2.2.2.2.1, x7.2.2.2.2.2.1, x7.2.2.2.2.2.2.1, x7.2.2.2.2.2.2.2.1, x7.2.2.2.2.2.2.2.2.1, x7.2.2.2.2.2.2.2.2.2.1, x7.2.2.2.2.2.2.2.2.2.2.1, x7.2.2.2.2.2.2.2.2.2.2.2.1, x7.2.2.2.2.2.2.2.2.2.2.2.2.1, x7.2.2.2.2.2.2.2.2.2.2.2.2.2.1, w64 (x7.2.2.2.2.2.2.2.2.2.2.2.2.2.2 + 1)))
        else
         some (.inl (x7.1, x7.2.1, x7.2.2.1, x7.2.2.2.1, x7.2.2.2.2.1, x7.2.2.2.2.2.1, x7.2.2.2.2.2.2.1, x7.2.2.2.2.2.2.2.1, x7.2.2.2.2.2.2.2.2.1, x7.2.2.2.2.2.2.2.2.2.1, x7.2.2.2.2.2.2.2.2.2.2.1, x7.2.2.2.2.2.2.2.2.2.2.2.1, x7.2.2.2.2.2.2.2.2.2.2.2.2.1, x7.2.2.2.2.2.2.2.2.2.2.2.2.2.1, w64 (x7.2.2.2.2.2.2.2.2.2.2.2.2.2.2 + 1)))
      else
       some (.inr (.inl (x7.1, x7.2.1, x7.2.2.1, x7.2.2.2.1, x7.2.2.2.2.1, x7.2.2.2.2.2.1, x7.2.2.2.2.2.2.1, x7.2.2.2.2.2.2.2.2.2.1, x7.2.2.2.2.2.2.2.2.2.2.1, w64 (x7.2.2.2.2.2.2.2.2.2.2.2.1 + 1))))
     ) (x4.1, x4.2.1, x4.2.2.1, x4.2.2.2.1, x4.2.2.2.2.1, x4.2.2.2.2.2.1, x4.2.2.2.2.2.2.1, x4.2.2.2.2.2.2.2.1, x4.2.2.2.2.2.2.2.2.1, x4.2.2.2.2.2.2.2.2.2.1, x4.2.2.2.2.2.2.2.2.2.2.1, x4.2.2.2.2.2.2.2.2.2.2.2.1, x4.2.2.2.2.2.2.2.2.1, (x4.2.2.2.2.2.2.2.2.1.length : Int), 0)
    ).bind fun r => some (.inr r)
   ) (x2.1, x2.2.1, x2.2.2.1, x2.2.2.2.1, x2.2.2.2.2.1, x2.2.2.2.2.2.1, x2.2.2.2.2.2.2.1, e3.cells, e3.orig, x2.2.2.2.2.2.2.2.1, x2.2.2.2.2.2.2.2.2.1, x2.2.2.2.2.2.2.2.2.2, e3.cells, (e3.cells.length : Int), 0)
  else
   some (.inr (true))
 ) (a.kind, a.n, a.step, a.text, a.list, a.columns, a.rows, a.rows, (a.rows.length : Int), 0)
def iIsTableFS : Fsp := ⟨155, [shT .val], [shF .bool], true, false, fun x => iIsTable x⟩
def iIsValidValueP (a : GVal) : Option (Bool) :=
 bif ((a.columns.length : Int) == 0) then
  bif (a.n == 0) then
   bif (a.step == 0) then
    bif (a.text == []) then
     (iIsTable (GVal.mk 5 a.n a.step a.text [] a.columns a.rows)).bind fun r1 =>
     some (r1)
    else
     some (false)
   else
    some (false)
  else
   some (false)
 else
 bif (a.n == 0) then
  bif (a.step == 0) then
   bif (a.text == []) then
    (iIsTable (GVal.mk 5 a.n a.step a.text [] a.columns a.rows)).bind fun r2 =>
    some (r2)
   else
    some (false)
  else
   some (false)
 else
  some (false)
def iIsValidValue (a : GVal) : Option (Bool) := bif (a.kind == 5) && a.list.isEmpty then iIsValidValueP a else none
def iIsValidValueFS : Fsp := ⟨107, [shT .val], [shF .bool], true, false, fun x => iIsValidValue x⟩
def iParseData (a : Str) : Option (GVal × Bool) :=
 (libSplit a [59, 32]).bind fun r1 =>
 (idx r1 0).bind fun _ =>
 (r1[0]?).bind fun e3 =>
 (iSplitByte e3 32).bind fun r4 =>
 (eff.cutL r1 (some 1) none).bind fun r5 =>
 loopD (fun (x6 : Int × Int × Int × Str × (List GVal) × (List Str) × (List GRow) × Int × Int × Int × Str × (List GVal) × (List Str) × (List GRow) × (List Str) × Int × Int) =>
  bif (decide (x6.2.2.2.2.2.2.2.2.2.2.2.2.2.2.2.2 < x6.2.2.2.2.2.2.2.2.2.2.2.2.2.2.2.1)) then
   (idx x6.2.2.2.2.2.2.2.2.2.2.2.2.2.2.1 x6.2.2.2.2.2.2.2.2.2.2.2.2.2.2.2.2).bind fun e7 =>
   (iDataRow e7 (x6.2.2.2.2.2.2.2.2.2.2.2.2.1.length : Int)).bind fun r8 =>
   bif (!r8.2) then
    some (.inr (GVal.mk 0 0 0 [] [] [] [], false))
   else
    (gd (x6.2.2.2.2.2.2.2.2.2.2.2.2.2.1.length + ([GRow.mk r8.1 []]).length)).bind fun _ =>
    some (.inl (x6.1, x6.2.1, x6.2.2.1, x6.2.2.2.1, x6.2.2.2.2.1, x6.2.2.2.2.2.1, x6.2.2.2.2.2.2.1, x6.2.2.2.2.2.2.2.1, x6.2.2.2.2.2.2.2.2.1, x6.2.2.2.2.2.2.2.2.2.1, x6.2.2.2.2.2.2.2.2.2.2.1, x6.2.2.2.2.2.2.2.2.2.2.2.1, x6.2.2.2.2.2.2.2.2.2.2.2.2.1, x6.2.2.2.2.2.2.2.2.2.2.2.2.2.1 ++ ([GRow.mk r8.1 []]), x6.2.2.2.2.2.2.2.2.2.2.2.2.2.2.1, x6.2.2.2.2.2.2.2.2.2.2.2.2.2.2.2.1, w64 (x6.2.2.2.2.2.2.2.2.2.2.2.2.2.2.2.2 + 1)))
  else
   (
    (iIsValidValue (GVal.mk x6.2.2.2.2.2.2.2.1 x6.2.2.2.2.2.2.2.2.1 x6.2.2.2.2.2.2.2.2.2.1 x6.2.2.2.2.2.2.2.2.2.2.1 x6.2.2.2.2.2.2.2.2.2.2.2.1 x6.2.2.2.2.2.2.2.2.2.2.2.2.1 x6.2.2.2.2.2.2.2.2.2.2.2.2.2.1)).bind fun r9 =>
    bif (!r9) then
     some (GVal.mk 0 0 0 [] [] [] [], false)
    else
     some (GVal.mk x6.2.2.2.2.2.2.2.1 x6.2.2.2.2.2.2.2.2.1 x6.2.2.2.2.2.2.2.2.2.1 x6.2.2.2.2.2.2.2.2.2.2.1 x6.2.2.2.2.2.2.2.2.2.2.2.1 x6.2.2.2.2.2.2.2.2.2.2.2.2.1 x6.2.2.2.2.2.2.2.2.2.2.2.2.2.1, true)
   ).bind fun r => some (.inr r)
 ) (0, 0, 0, [], [], [], [], 5, 0, 0, [], [], r4, [], r5, (r5.length : Int), 0)
def iParseDataFS : Fsp := ⟨71, [shF .str], [shT .val, shF .bool], true, false, fun x => iParseData x⟩
def iDataError (a : Str) : Option (Int) :=
 (iParseData a).bind fun r1 =>
 bif r1.2 then
  some ((-1))
 else
 (libSplit a [59, 32]).bind fun r2 =>
 (idx r2 0).bind fun _ =>
 (r2[0]?).bind fun e4 =>
 (iSplitByte e4 32).bind fun r5 =>
 (iAreColumns r5).bind fun r6 =>
 bif (!r6) then
  some (0)
 else
 (eff.cutL r2 (some 1) none).bind fun r7 =>
 loopD (fun (x8 : (List Str) × (List Str) × Int × Int) =>
  bif (decide (x8.2.2.2 < x8.2.2.1)) then
   (idx x8.2.1 x8.2.2.2).bind fun e9 =>
   (iDataRow e9 (x8.1.length : Int)).bind fun r10 =>
   bif (!r10.2) then
    some (.inr (w64 (x8.2.2.2 + 1)))
   else
    bif (decide (x8.2.2.2 >= 12)) then
     some (.inr (w64 (x8.2.2.2 + 1)))
    else
     some (.inl (x8.1, x8.2.1, x8.2.2.1, w64 (x8.2.2.2 + 1)))
  else
   some (.inr ((-1)))
 ) (r5, r7, (r7.length : Int), 0)
def iDataErrorFS : Fsp := ⟨72, [shF .str], [shF .int], true, false, fun x => iDataError x⟩
def iCopyRow (a : GRow) : Option (GRow) :=
 (gd (0 + a.cells.length)).bind fun _ =>
 (gd (0 + a.orig.length)).bind fun _ =>
 some (GRow.mk ([] ++ a.cells) ([] ++ a.orig))
def iCopyRowFS : Fsp := ⟨159, [shT .row], [shT .row], true, false, fun x => iCopyRow x⟩
def iCopyValueB (riCopyValue : GVal -> Option (GVal)) (riCopyValues : (List GVal) -> Option ((List GVal))) (a : GVal) : Option (GVal) :=
 (riCopyValues a.list).bind fun r1 =>
 (gd (0 + a.columns.length)).bind fun _ =>
 loopD (fun (x2 : Int × Int × Int × Str × (List GVal) × (List Str) × (List GRow) × Int × Int × Int × Str × (List GVal) × (List Str) × (List GRow) × (List GRow) × Int × Int) =>
  bif (decide (x2.2.2.2.2.2.2.2.2.2.2.2.2.2.2.2.2 < x2.2.2.2.2.2.2.2.2.2.2.2.2.2.2.2.1)) then
   (idx x2.2.2.2.2.2.2.2.2.2.2.2.2.2.2.1 x2.2.2.2.2.2.2.2.2.2.2.2.2.2.2.2.2).bind fun e3 =>
   (iCopyRow e3).bind fun r4 =>
   (gd (x2.2.2.2.2.2.2.2.2.2.2.2.2.2.1.length + [r4].length)).bind fun _ =>
   some (.inl (x2.1, x2.2.1, x2.2.2.1, x2.2.2.2.1, x2.2.2.2.2.1, x2.2.2.2.2.2.1, x2.2.2.2.2.2.2.1, x2.2.2.2.2.2.2.2.1, x2.2.2.2.2.2.2.2.2.1, x2.2.2.2.2.2.2.2.2.2.1, x2.2.2.2.2.2.2.2.2.2.2.1, x2.2.2.2.2.2.2.2.2.2.2.2.1, x2.2.2.2.2.2.2.2.2.2.2.2.2.1, x2.2.2.2.2.2.2.2.2.2.2.2.2.2.1 ++ [r4], x2.2.2.2.2.2.2.2.2.2.2.2.2.2.2.1, x2.2.2.2.2.2.2.2.2.2.2.2.2.2.2.2.1, w64 (x2.2.2.2.2.2.2.2.2.2.2.2.2.2.2.2.2 + 1)))
  else
   some (.inr (GVal.mk x2.2.2.2.2.2.2.2.1 x2.2.2.2.2.2.2.2.2.1 x2.2.2.2.2.2.2.2.2.2.1 x2.2.2.2.2.2.2.2.2.2.2.1 x2.2.2.2.2.2.2.2.2.2.2.2.1 x2.2.2.2.2.2.2.2.2.2.2.2.2.1 x2.2.2.2.2.2.2.2.2.2.2.2.2.2.1))
 ) (0, 0, 0, [], [], [], [], a.kind, a.n, a.step, a.text, r1, [] ++ a.columns, [], a.rows, (a.rows.length : Int), 0)
def iCopyValuesB (riCopyValue : GVal -> Option (GVal)) (riCopyValues : (List GVal) -> Option ((List GVal))) (a : List GVal) : Option ((List GVal)) :=
 loopD (fun (x1 : (List GVal) × (List GVal) × Int × Int) =>
  bif (decide (x1.2.2.2 < x1.2.2.1)) then
   (idx x1.2.1 x1.2.2.2).bind fun e2 =>
   (riCopyValue (reVal e2)).bind fun r3 =>
   (gd (x1.1.length + [reVal r3].length)).bind fun _ =>
   some (.inl (x1.1 ++ [reVal r3], x1.2.1, x1.2.2.1, w64 (x1.2.2.2 + 1)))
  else
   some (.inr (x1.1))
 ) ([], a, (a.length : Int), 0)
def iCopyValueG : Nat -> (GVal -> Option (GVal)) × ((List GVal) -> Option ((List GVal)))
 | 0 => (fun _ => none, fun _ => none)
 | n + 1 => (iCopyValueB (iCopyValueG n).1 (iCopyValueG n).2, iCopyValuesB (iCopyValueG n).1 (iCopyValueG n).2)
def iCopyValue (a : GVal) : Option (GVal) := (iCopyValueG (siz a + 1)).1 a
def iCopyValueFS : Fsp := ⟨109, [shT .val], [shT .val], true, false, fun x => iCopyValue x⟩
def iCopyValueFSN (n : Nat) : Fsp := ⟨109, [shT .val], [shT .val], true, false, fun x => (iCopyValueG n).1 x⟩
def iCopyValues (a : List GVal) : Option ((List GVal)) := (iCopyValueG (siz a + 1)).2 a
def iCopyValuesFS : Fsp := ⟨158, [slF .val], [slF .val], true, false, fun x => iCopyValues x⟩
def iCopyValuesFSN (n : Nat) : Fsp := ⟨158, [slF .val], [slF .val], true, false, fun x => (iCopyValueG n).2 x⟩
def iSourceTable (a : Int) (b : GVal) : Option (GVal) :=
 bif (b.kind != 5) then
  (iErrorValue 4).bind fun r1 =>
  some (reVal r1)
 else
 (iIsValidValue (reVal b)).bind fun r2 =>
 bif (!r2) then
  (iErrorValue 4).bind fun r3 =>
  some (reVal r3)
 else
 bif (decide (a < 0)) then
  (iErrorValue 4).bind fun r4 =>
  some (reVal r4)
 else
  (iCopyValue (reVal b)).bind fun r5 =>
  loopD (fun (x6 : Int × Int × Int × Int × Str × (List GVal) × (List Str) × (List GRow) × Int × Int × Int × Str × (List GVal) × (List Str) × (List GRow) × Int × Int) =>
   bif (decide (x6.2.2.2.2.2.2.2.2.2.2.2.2.2.2.2.2 < x6.2.2.2.2.2.2.2.2.2.2.2.2.2.2.2.1)) then
    (idx x6.2.2.2.2.2.2.2.2.2.2.2.2.2.2.1 x6.2.2.2.2.2.2.2.2.2.2.2.2.2.2.2.2).bind fun _ =>
    (x6.2.2.2.2.2.2.2.2.2.2.2.2.2.2.1[x6.2.2.2.2.2.2.2.2.2.2.2.2.2.2.2.2.toNat]?).bind fun e8 =>
    some (.inl (x6.1, x6.2.1, x6.2.2.1, x6.2.2.2.1, x6.2.2.2.2.1, x6.2.2.2.2.2.1, x6.2.2.2.2.2.2.1, x6.2.2.2.2.2.2.2.1, x6.2.2.2.2.2.2.2.2.1, x6.2.2.2.2.2.2.2.2.2.1, x6.2.2.2.2.2.2.2.2.2.2.1, x6.2.2.2.2.2.2.2.2.2.2.2.1, x6.2.2.2.2.2.2.2.2.2.2.2.2.1, x6.2.2.2.2.2.2.2.2.2.2.2.2.2.1, x6.2.2.2.2.2.2.2.2.2.2.2.2.2.2.1.set x6.2.2.2.2.2.2.2.2.2.2.2.2.2.2.2.2.toNat (GRow.mk e8.cells [GOrigin.mk x6.1 x6.2.2.2.2.2.2.2.2.2.2.2.2.2.2.2.2]), x6.2.2.2.2.2.2.2.2.2.2.2.2.2.2.2.1, w64 (x6.2.2.2.2.2.2.2.2.2.2.2.2.2.2.2.2 + 1)))
   else
    some (.inr (GVal.mk x6.2.2.2.2.2.2.2.2.1 x6.2.2.2.2.2.2.2.2.2.1 x6.2.2.2.2.2.2.2.2.2.2.1 x6.2.2.2.2.2.2.2.2.2.2.2.1 x6.2.2.2.2.2.2.2.2.2.2.2.2.1 x6.2.2.2.2.2.2.2.2.2.2.2.2.2.1 x6.2.2.2.2.2.2.2.2.2.2.2.2.2.2.1))
  ) (a, 0, 0, 0, [], [], [], [], r5.kind, r5.n, r5.step, r5.text, r5.list, r5.columns, r5.rows, (r5.rows.length : Int), 0)
def iSourceTableFS : Fsp := ⟨73, [shF .int, shT .val], [shT .val], true, false, fun x => iSourceTable x.1 x.2⟩
def iCompileCell (a : GCell) : Option (GPart) :=
 (iIsValidCell a).bind fun r1 =>
 bif (!r1) then
  some (GPart.mk 0 [] (GExpr.mk 0 0 [] []) (GVal.mk 0 0 0 [] [] [] []) 0)
 else
 bif (a.kind == 1) then
  some (GPart.mk 1 [] (GExpr.mk 0 0 [] []) (GVal.mk 0 0 0 [] [] [] []) 0)
 else
 bif (a.kind == 3) then
  (iNumberValue a.n).bind fun r2 =>
  some (GPart.mk 3 a.name (GExpr.mk 0 0 [] []) (reVal r2) 0)
 else
 bif (a.kind == 2) then
  (iParseExpr a.code).bind fun r3 =>
  bif (decide (r3.2 >= 0)) then
   (iErrorValue 8).bind fun r4 =>
   some (GPart.mk 4 a.name (GExpr.mk 0 0 [] []) (reVal r4) r3.2)
  else
   some (GPart.mk 2 a.name (reExpr r3.1) (GVal.mk 0 0 0 [] [] [] []) 0)
 else
  (iParseData a.code).bind fun r5 =>
  bif (!r5.2) then
   (iErrorValue 8).bind fun r6 =>
   (iDataError a.code).bind fun r7 =>
   some (GPart.mk 4 a.name (GExpr.mk 0 0 [] []) (reVal r6) r7)
  else
   (iSourceTable a.id (reVal r5.1)).bind fun r8 =>
   some (GPart.mk 3 a.name (GExpr.mk 0 0 [] []) (reVal r8) 0)
def iCompileCellFS : Fsp := ⟨42, [shT .cell], [shT .part], false, false, fun x => iCompileCell x⟩
def iCompileAll (a : GNotebook) : Option ((List GPart)) :=
 (iIsValidNotebook a).bind fun r1 =>
 bif (!r1) then
  some ([])
 else
  loopD (fun (x2 : (List GPart) × (List GCell) × Int × Int) =>
   bif (decide (x2.2.2.2 < x2.2.2.1)) then
    (idx x2.2.1 x2.2.2.2).bind fun e3 =>
    (iCompileCell e3).bind fun r4 =>
    (gd (x2.1.length + [rePart r4].length)).bind fun _ =>
    some (.inl (x2.1 ++ [rePart r4], x2.2.1, x2.2.2.1, w64 (x2.2.2.2 + 1)))
   else
    some (.inr (x2.1))
  ) ([], a.cells, (a.cells.length : Int), 0)
def iCompileAllFS : Fsp := ⟨22, [shT .notebook], [slF .part], false, true, fun x => iCompileAll x⟩
def iDefiners (a : List GPart) (b : Str) : Option ((List Int)) :=
 loopD (fun (x1 : Str × (List Int) × (List GPart) × Int × Int) =>
  bif (decide (x1.2.2.2.2 < x1.2.2.2.1)) then
   (idx x1.2.2.1 x1.2.2.2.2).bind fun e2 =>
   bif (e2.kind != 1) then
    bif (e2.name == x1.1) then
     (gd (x1.2.1.length + [x1.2.2.2.2].length)).bind fun _ =>
     some (.inl (x1.1, x1.2.1 ++ [x1.2.2.2.2], x1.2.2.1, x1.2.2.2.1, w64 (x1.2.2.2.2 + 1)))
    else
     some (.inl (x1.1, x1.2.1, x1.2.2.1, x1.2.2.2.1, w64 (x1.2.2.2.2 + 1)))
   else
    some (.inl (x1.1, x1.2.1, x1.2.2.1, x1.2.2.2.1, w64 (x1.2.2.2.2 + 1)))
  else
   some (.inr (x1.2.1))
 ) (b, [], a, (a.length : Int), 0)
def iDefinersFS : Fsp := ⟨77, [slF .part, shF .str], [slF .int], true, false, fun x => iDefiners x.1 x.2⟩
def iSortNames (a : List Str) : Option ((List Str)) :=
 loopD (fun (x1 : (List Str) × (List Str) × (List Str) × Int × Int) =>
  bif (decide (x1.2.2.2.2 < x1.2.2.2.1)) then
   (idx x1.2.2.1 x1.2.2.2.2).bind fun e2 =>
   (iIndexOf x1.1 e2).bind fun r3 =>
   bif (r3 == x1.2.2.2.2) then
    (gd (x1.2.1.length + ([e2] : List Str).length)).bind fun _ =>
    some (.inl (x1.1, x1.2.1 ++ ([e2] : List Str), x1.2.2.1, x1.2.2.2.1, w64 (x1.2.2.2.2 + 1)))
   else
    some (.inl (x1.1, x1.2.1, x1.2.2.1, x1.2.2.2.1, w64 (x1.2.2.2.2 + 1)))
  else
   (
    (libSortStrings x1.2.1).bind fun y4 =>
    some (y4)
   ).bind fun r => some (.inr r)
 ) (a, [], a, (a.length : Int), 0)
def iSortNamesFS : Fsp := ⟨78, [slF .str], [slF .str], true, false, fun x => iSortNames x⟩
def iNamesWith (a : List GPart) (b : Bool) : Option ((List Str)) :=
 loopD (fun (x1 : (List GPart) × Bool × (List Str) × (List GPart) × Int × Int) =>
  bif (decide (x1.2.2.2.2.2 < x1.2.2.2.2.1)) then
   (idx x1.2.2.2.1 x1.2.2.2.2.2).bind fun e2 =>
   bif (e2.kind != 1) then
    (iDefiners x1.1 e2.name).bind fun r3 =>
    bif ((decide ((r3.length : Int) > 1)) == x1.2.1) then
     (gd (x1.2.2.1.length + ([e2.name] : List Str).length)).bind fun _ =>
     some (.inl (x1.1, x1.2.1, x1.2.2.1 ++ ([e2.name] : List Str), x1.2.2.2.1, x1.2.2.2.2.1, w64 (x1.2.2.2.2.2 + 1)))
    else
     some (.inl (x1.1, x1.2.1, x1.2.2.1, x1.2.2.2.1, x1.2.2.2.2.1, w64 (x1.2.2.2.2.2 + 1)))
   else
    some (.inl (x1.1, x1.2.1, x1.2.2.1, x1.2.2.2.1, x1.2.2.2.2.1, w64 (x1.2.2.2.2.2 + 1)))
  else
   (
    (iSortNames x1.2.2.1).bind fun r4 =>
    some (r4)
   ).bind fun r => some (.inr r)
 ) (a, b, [], a, (a.length : Int), 0)
def iNamesWithFS : Fsp := ⟨45, [slF .part, shF .bool], [slF .str], true, false, fun x => iNamesWith x.1 x.2⟩
def iDuplicateNames (a : List GPart) : Option ((List Str)) :=
 (iNamesWith a true).bind fun r1 =>
 some (r1)
def iDuplicateNamesFS : Fsp := ⟨24, [slF .part], [slF .str], true, false, fun x => iDuplicateNames x⟩
def iBrokenCells (a : GNotebook) : Option ((List Int)) :=
 (iCompileAll a).bind fun r1 =>
 loopD (fun (x2 : (List GCell) × (List Int) × (List GPart) × Int × Int) =>
  bif (decide (x2.2.2.2.2 < x2.2.2.2.1)) then
   (idx x2.2.2.1 x2.2.2.2.2).bind fun _ =>
   (x2.2.2.1[x2.2.2.2.2.toNat]?).bind fun e4 =>
   bif (e4.kind == 4) then
    (idx x2.1 x2.2.2.2.2).bind fun e5 =>
    (gd (x2.2.1.length + [e5.id].length)).bind fun _ =>
    some (.inl (x2.1, x2.2.1 ++ [e5.id], x2.2.2.1, x2.2.2.2.1, w64 (x2.2.2.2.2 + 1)))
   else
    some (.inl (x2.1, x2.2.1, x2.2.2.1, x2.2.2.2.1, w64 (x2.2.2.2.2 + 1)))
  else
   some (.inr (x2.2.1))
 ) (a.cells, [], r1, (r1.length : Int), 0)
def iBrokenCellsFS : Fsp := ⟨25, [shT .notebook], [slF .int], true, false, fun x => iBrokenCells x⟩
def iHasInt (a : List Int) (b : Int) : Option (Bool) :=
 loopD (fun (x1 : Int × (List Int) × Int × Int) =>
  bif (decide (x1.2.2.2 < x1.2.2.1)) then
   (idx x1.2.1 x1.2.2.2).bind fun e2 =>
   bif (e2 == x1.1) then
    some (.inr (true))
   else
    some (.inl (x1.1, x1.2.1, x1.2.2.1, w64 (x1.2.2.2 + 1)))
  else
   some (.inr (false))
 ) (b, a, (a.length : Int), 0)
def iHasIntFS : Fsp := ⟨51, [slF .int, shF .int], [shF .bool], true, false, fun x => iHasInt x.1 x.2⟩
def iFreeNames (a : GExpr) : Option (List Str) := (walkEvs (siz a + 1) a []).bind fun es => (gd es.length).bind fun _ => iSortNames (es.map (·.1))
def iFreeNamesFS : Fsp := ⟨164, [shT .expr], [slF .str], true, false, fun x => iFreeNames x⟩
def iUsesOf (a : GPart) : Option ((List Str)) :=
 bif (a.kind != 2) then
  some ([])
 else
  (iFreeNames (reExpr a.expr)).bind fun r1 =>
  some (r1)
def iUsesOfFS : Fsp := ⟨116, [shT .part], [slF .str], true, false, fun x => iUsesOf x⟩
def iResolve (a : List GPart) (b : Str) : Option (Int) :=
 (iDefiners a b).bind fun r1 =>
 bif ((r1.length : Int) == 0) then
  some ((-1))
 else
  bif ((r1.length : Int) == 1) then
   (idx r1 0).bind fun _ =>
   (r1[0]?).bind fun e3 =>
   some (e3)
  else
   some ((-2))
def iResolveFS : Fsp := ⟨117, [slF .part, shF .str], [shF .int], true, false, fun x => iResolve x.1 x.2⟩
def iSorted (a : List Int) : Option (List Int) := libSet a
def iSortedFS : Fsp := ⟨118, [slF .int], [slF .int], true, false, fun x => iSorted x⟩
def iDirectUses (a : List GPart) (b : Int) : Option ((List Int)) :=
 bif (decide (b < 0)) then
  some ([])
 else
 bif (decide (b >= (a.length : Int))) then
  some ([])
 else
 (idx a b).bind fun e1 =>
 (iUsesOf (rePart e1)).bind fun r2 =>
 loopD (fun (x3 : (List GPart) × (List Int) × (List Str) × Int × Int) =>
  bif (decide (x3.2.2.2.2 < x3.2.2.2.1)) then
   (idx x3.2.2.1 x3.2.2.2.2).bind fun _ =>
   (x3.2.2.1[x3.2.2.2.2.toNat]?).bind fun e5 =>
   (iResolve x3.1 e5).bind fun r6 =>
   bif (decide (r6 >= 0)) then
    (gd (x3.2.1.length + [r6].length)).bind fun _ =>
    some (.inl (x3.1, x3.2.1 ++ [r6], x3.2.2.1, x3.2.2.2.1, w64 (x3.2.2.2.2 + 1)))
   else
    some (.inl (x3.1, x3.2.1, x3.2.2.1, x3.2.2.2.1, w64 (x3.2.2.2.2 + 1)))
  else
   (
    (iSorted x3.2.1).bind fun r7 =>
    some (r7)
   ).bind fun r => some (.inr r)
 ) (a, [], r2, (r2.length : Int), 0)
def iDirectUsesFS : Fsp := ⟨81, [slF .part, shF .int], [slF .int], true, false, fun x => iDirectUses x.1 x.2⟩
def iAllUses (a : List GPart) (b : Int) : Option (List Int) := (iDirectUses a b).bind fun r => (loopD (reachF (iDirectUses a)) ([], r)).bind fun out => iSorted out
def iAllUsesFS : Fsp := ⟨114, [slF .part, shF .int], [slF .int], true, false, fun x => iAllUses x.1 x.2⟩
def iOnCycle (a : List GPart) (b : Int) : Option (Bool) :=
 (iAllUses a b).bind fun r1 =>
 (iHasInt r1 b).bind fun r2 =>
 some (r2)
def iOnCycleFS : Fsp := ⟨79, [slF .part, shF .int], [shF .bool], true, false, fun x => iOnCycle x.1 x.2⟩
def iUsers (a : List GPart) (b : Int) : Option ((List Int)) :=
 loopD (fun (x1 : (List GPart) × Int × (List Int) × Int × Int) =>
  bif (decide (x1.2.2.2.2 < x1.2.2.2.1)) then
   (iDirectUses x1.1 x1.2.2.2.2).bind fun r2 =>
   (iHasInt r2 x1.2.1).bind fun r3 =>
   bif r3 then
    (gd (x1.2.2.1.length + [x1.2.2.2.2].length)).bind fun _ =>
    some (.inl (x1.1, x1.2.1, x1.2.2.1 ++ [x1.2.2.2.2], x1.2.2.2.1, w64 (x1.2.2.2.2 + 1)))
   else
    some (.inl (x1.1, x1.2.1, x1.2.2.1, x1.2.2.2.1, w64 (x1.2.2.2.2 + 1)))
  else
   some (.inr (x1.2.2.1))
 ) (a, b, [], (a.length : Int), 0)
def iUsersFS : Fsp := ⟨115, [slF .part, shF .int], [slF .int], true, false, fun x => iUsers x.1 x.2⟩
def iStepsTo (a : List GPart) (b : Int) : Option ((List Int)) :=
 loopD (fun (x1 : (List GPart) × Int × (List Int) × Int × Int) =>
  bif (decide (x1.2.2.2.2 < x1.2.2.2.1)) then
   (gd (x1.2.2.1.length + [-1].length)).bind fun _ =>
   some (.inl (x1.1, x1.2.1, x1.2.2.1 ++ [-1], x1.2.2.2.1, w64 (x1.2.2.2.2 + 1)))
  else
  (
   loopD (fun (x2 : (List GPart) × (List Int) × (List Int) × Int) =>
    bif (decide ((x2.2.2.1.length : Int) > 0)) then
     loopD (fun (x3 : (List GPart) × (List Int) × Int × (List Int) × (List Int) × Int × Int) =>
      bif (decide (x3.2.2.2.2.2.2 < x3.2.2.2.2.2.1)) then
       (idx x3.2.2.2.2.1 x3.2.2.2.2.2.2).bind fun _ =>
       (x3.2.2.2.2.1[x3.2.2.2.2.2.2.toNat]?).bind fun e5 =>
       (iUsers x3.1 e5).bind fun r6 =>
       loopD (fun (x7 : (List GPart) × (List Int) × Int × (List Int) × (List Int) × Int × Int × (List Int) × Int × Int) =>
        bif (decide (x7.2.2.2.2.2.2.2.2.2 < x7.2.2.2.2.2.2.2.2.1)) then
         (idx x7.2.2.2.2.2.2.2.1 x7.2.2.2.2.2.2.2.2.2).bind fun _ =>
         (x7.2.2.2.2.2.2.2.1[x7.2.2.2.2.2.2.2.2.2.toNat]?).bind fun e9 =>
         (idx x7.2.1 e9).bind fun _ =>
         (x7.2.1[e9.toNat]?).bind fun e11 =>
         bif (decide (e11 < 0)) then
          (idx x7.2.1 e9).bind fun _ =>
          (x7.2.1[e9.toNat]?).bind fun e13 =>
          (gd (x7.2.2.2.1.length + [e9].length)).bind fun _ =>
          some (.inl (x7.1, x7.2.1.set e9.toNat x7.2.2.1, x7.2.2.1, x7.2.2.2.1 ++ [e9], x7.2.2.2.2.1, x7.2.2.2.2.2.1, x7.2.2.2.2.2.2.1, x7.2.2.2.2.2.2.2.1, x7.2.2.2.2.2.2.2.2.1, w64 (x7.2.2.2.2.2.2.2.2.2 + 1)))
         else
          some (.inl (x7.1, x7.2.1, x7.2.2.1, x7.2.2.2.1, x7.2.2.2.2.1, x7.2.2.2.2.2.1, x7.2.2.2.2.2.2.1, x7.2.2.2.2.2.2.2.1, x7.2.2.2.2.2.2.2.2.1, w64 (x7.2.2.2.2.2.2.2.2.2 + 1)))
        else
         some (.inr (.inl (x7.1, x7.2.1, x7.2.2.1, x7.2.2.2.1, x7.2.2.2.2.1, x7.2.2.2.2.2.1, w64 (x7.2.2.2.2.2.2.1 + 1))))
       ) (x3.1, x3.2.1, x3.2.2.1, x3.2.2.2.1, x3.2.2.2.2.1, x3.2.2.2.2.2.1, x3.2.2.2.2.2.2, r6, (r6.length : Int), 0)
      else
       some (.inr (.inl (x3.1, x3.2.1, x3.2.2.2.1, w64 (x3.2.2.1 + 1))))
     ) (x2.1, x2.2.1, x2.2.2.2, [], x2.2.2.1, (x2.2.2.1.length : Int), 0)
    else
     some (.inr (x2.2.1))
   ) (x1.1, x1.2.2.1, [x1.2.1], 1)
  ).bind fun r => some (.inr r)
 ) (a, b, [], (a.length : Int), 0)
def iStepsToFS : Fsp := ⟨80, [slF .part, shF .int], [slF .int], true, false, fun x => iStepsTo x.1 x.2⟩
def iCycleThrough (a : List GPart) (b : Int) : Option ((List Int)) :=
 (iOnCycle a b).bind fun r1 =>
 bif (!r1) then
  some ([])
 else
 (iStepsTo a b).bind fun r2 =>
 (idx r2 b).bind fun _ =>
 (r2[b.toNat]?).bind fun e4 =>
 loopD (fun (x5 : (List GPart) × Int × (List Int) × (List Int) × Int) =>
  bif (decide (x5.2.2.2.2 > 1)) then
   (idx x5.2.2.2.1 (w64 ((x5.2.2.2.1.length : Int) - 1))).bind fun _ =>
   (x5.2.2.2.1[(w64 ((x5.2.2.2.1.length : Int) - 1)).toNat]?).bind fun e7 =>
   (iDirectUses x5.1 e7).bind fun r8 =>
   loopD (fun (x9 : (List GPart) × Int × (List Int) × (List Int) × Int × (List Int) × Int × Int) =>
    bif (decide (x9.2.2.2.2.2.2.2 < x9.2.2.2.2.2.2.1)) then
     (idx x9.2.2.2.2.2.1 x9.2.2.2.2.2.2.2).bind fun _ =>
     (x9.2.2.2.2.2.1[x9.2.2.2.2.2.2.2.toNat]?).bind fun e11 =>
     bif (e11 != x9.2.1) then
      (idx x9.2.2.1 e11).bind fun _ =>
      (x9.2.2.1[e11.toNat]?).bind fun e13 =>
      bif (e13 == (w64 (x9.2.2.2.2.1 - 1))) then
       (gd (x9.2.2.2.1.length + [e11].length)).bind fun _ =>
       some (.inr (.inl (x9.1, x9.2.1, x9.2.2.1, x9.2.2.2.1 ++ [e11], w64 (x9.2.2.2.2.1 - 1))))
      else
       some (.inl (x9.1, x9.2.1, x9.2.2.1, x9.2.2.2.1, x9.2.2.2.2.1, x9.2.2.2.2.2.1, x9.2.2.2.2.2.2.1, w64 (x9.2.2.2.2.2.2.2 + 1)))
     else
      some (.inl (x9.1, x9.2.1, x9.2.2.1, x9.2.2.2.1, x9.2.2.2.2.1, x9.2.2.2.2.2.1, x9.2.2.2.2.2.2.1, w64 (x9.2.2.2.2.2.2.2 + 1)))
    else
     some (.inr (.inl (x9.1, x9.2.1, x9.2.2.1, x9.2.2.2.1, w64 (x9.2.2.2.2.1 - 1))))
   ) (x5.1, x5.2.1, x5.2.2.1, x5.2.2.2.1, x5.2.2.2.2, r8, (r8.length : Int), 0)
  else
   some (.inr (x5.2.2.2.1))
 ) (a, b, r2, [b], e4)
def iCycleThroughFS : Fsp := ⟨46, [slF .part, shF .int], [slF .int], true, false, fun x => iCycleThrough x.1 x.2⟩
def iSmallestCycle (a : List GPart) : Option (List Int) := (gd a.length).bind fun _ => cycleF (iCycleThrough a) a.length 0 []
def iSmallestCycleFS : Fsp := ⟨26, [slF .part], [slF .int], true, false, fun x => iSmallestCycle x⟩
def iIsExportable (a : GNotebook) : Option (Bool) :=
 (iCompileAll a).bind fun r1 =>
 (iIsValidNotebook a).bind fun r2 =>
 bif r2 then
  (iDuplicateNames r1).bind fun r3 =>
  bif ((r3.length : Int) == 0) then
   (iBrokenCells a).bind fun r4 =>
   bif ((r4.length : Int) == 0) then
    (iSmallestCycle r1).bind fun r5 =>
    some (((r5.length : Int) == 0))
   else
    some (false)
  else
   some (false)
 else
  some (false)
def iIsExportableFS : Fsp := ⟨8, [shT .notebook], [shF .bool], true, false, fun x => iIsExportable x⟩
def eqCell (a : GCell) (b : GCell) : Option (Bool) :=
 bif (a.id != b.id) then
  some (false)
 else
 bif (a.version != b.version) then
  some (false)
 else
 bif (a.kind != b.kind) then
  some (false)
 else
  bif (!(a.name == b.name)) then
   some (false)
  else
   bif (!(a.code == b.code)) then
    some (false)
   else
    bif (a.n != b.n) then
     some (false)
    else
     some (true)
def eqCellFS : Fsp := ⟨47, [shT .cell, shT .cell], [shF .bool], true, false, fun x => eqCell x.1 x.2⟩
def eqCellS (a : List GCell) (b : List GCell) : Option (Bool) :=
 bif ((a.length : Int) != (b.length : Int)) then
  some (false)
 else
 loopD (fun (x1 : (List GCell) × (List GCell) × Int) =>
  bif (decide (x1.2.2 < (x1.1.length : Int))) then
   (idx x1.1 x1.2.2).bind fun e2 =>
   (idx x1.2.1 x1.2.2).bind fun e3 =>
   (eqCell e2 e3).bind fun r4 =>
   bif (!r4) then
    some (.inr (false))
   else
    some (.inl (x1.1, x1.2.1, w64 (x1.2.2 + 1)))
  else
   some (.inr (true))
 ) (a, b, 0)
def eqCellSFS : Fsp := ⟨27, [slF .cell, slF .cell], [shF .bool], true, false, fun x => eqCellS x.1 x.2⟩
def eqNotebook (a : GNotebook) (b : GNotebook) : Option (Bool) :=
 (eqCellS a.cells b.cells).bind fun r1 =>
 bif (!r1) then
  some (false)
 else
  some (true)
def eqNotebookFS : Fsp := ⟨9, [shT .notebook, shT .notebook], [shF .bool], true, false, fun x => eqNotebook x.1 x.2⟩
def FnExactIsExportable (a : GNotebook) : Option (Bool) :=
 (szNotebook a 1048576).bind fun r1 =>
 bif (decide (r1 < 0)) then
  some (true)
 else
 (toNotebook a).bind fun r2 =>
 (sIsExportable r2).bind fun r3 =>
 (toNotebook a).bind fun r4 =>
 (iIsExportable r4).bind fun r5 =>
 bif (!(r5 == r3)) then
  some (false)
 else
  (toNotebook a).bind fun r6 =>
  (eqNotebook r4 r6).bind fun r7 =>
  bif (!r7) then
   some (false)
  else
   some (true)
def FnExactIsExportableFS : Fsp := ⟨3, [shT .notebook], [shF .bool], true, false, fun x => FnExactIsExportable x⟩
end
end Go.Proofs.YtgfjbogcidlaeaaGreatDoor
