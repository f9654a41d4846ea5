import Derived.Test.YtgfjbogcidlaeaaGreatDoorTabs
import Derived.Test.YtgfjbogcidlaeaaGreatDoorSortD
import Derived.Test.YtgfjbogcidlaeaaGreatDoorLib0
/- What the functions compute, by gen.py. -/
namespace Go.Proofs.YtgfjbogcidlaeaaGreatDoor
noncomputable section
open Go.Abs Go.Proofs
set_option linter.unusedVariables false
abbrev shT (b : Base) : Sh := ⟨true, .base b⟩
abbrev shF (b : Base) : Sh := ⟨false, .base b⟩
abbrev slF (b : Base) : Sh := ⟨false, .list (.base b)⟩
abbrev siz {α : Type} [SizeOf α] (x : α) : Nat := SizeOf.sizeOf x
abbrev w64 (n : Int) : Int := IntKind.i64.wrap n
abbrev w8 (n : Int) : Int := IntKind.u8.wrap n
def lK : Isp := { fid := 113, t := .base .str, fn := gm }
def Gz (a : aV) (b : Int) : Option (Int) :=
 bif (decide ((w64 (b - (a.name.length : Int))) < 0)) then
  some ((-1))
 else
  bif (decide ((w64 ((w64 (b - (a.name.length : Int))) - (a.code.length : Int))) < 0)) then
   some ((-1))
  else
   some (w64 ((w64 (b - (a.name.length : Int))) - (a.code.length : Int)))
def Yv : Fsp := ⟨34, [shT .cell, shF .int], [shF .int], true, false, fun x => Gz x.1 x.2⟩
def Oc (a : List aV) (b : Int) : Option (Int) :=
 bif (decide ((w64 (b - (a.length : Int))) < 0)) then
  some ((-1))
 else
 ah (fun (x1 : (List aV) × Int × Int) =>
  bif (decide (x1.2.2 < (x1.1.length : Int))) then
   (idx x1.1 x1.2.2).bind fun e2 =>
   (Gz e2 x1.2.1).bind fun r3 =>
   bif (decide (r3 < 0)) then
    some (.inr ((-1)))
   else
    some (.inl (x1.1, r3, w64 (x1.2.2 + 1)))
  else
   some (.inr (x1.2.1))
 ) (a, w64 (b - (a.length : Int)), 0)
def WT : Fsp := ⟨16, [slF .cell, shF .int], [shF .int], true, false, fun x => Oc x.1 x.2⟩
def oU (a : aW) (b : Int) : Option (Int) :=
 (Oc a.cells b).bind fun r1 =>
 bif (decide (r1 < 0)) then
  some ((-1))
 else
  some (r1)
def Ob : Fsp := ⟨5, [shT .notebook, shF .int], [shF .int], true, false, fun x => oU x.1 x.2⟩
def qg (a : Int) (b : Int) (c : Int) : Option (Bool) :=
 bif (decide (a >= b)) then
  some ((decide (a <= c)))
 else
  some (false)
def aaY : Fsp := ⟨63, [shF .int, shF .int, shF .int], [shF .bool], true, false, fun x => qg x.1 x.2.1 x.2.2⟩
def jD (a : Str) : Option (Bool) :=
 ah (fun (x1 : Str × Int) =>
  bif (decide (x1.2 < (x1.1.length : Int))) then
   (idx x1.1 x1.2).bind fun c2 =>
   bif (decide ((c2.toNat : Int) < 32)) then
    some (.inr (false))
   else
    (idx x1.1 x1.2).bind fun c3 =>
    bif (decide ((c3.toNat : Int) > 126)) then
     some (.inr (false))
    else
     some (.inl (x1.1, w64 (x1.2 + 1)))
  else
   some (.inr ((decide ((x1.1.length : Int) <= 120))))
 ) (a, 0)
def H9 : Fsp := ⟨64, [shF .str], [shF .bool], true, false, fun x => jD x⟩
def Bd (a : Str) : Option (Bool) :=
 ah (fun (x1 : Str × Int) =>
  bif (decide (x1.2 < (x1.1.length : Int))) then
   (idx x1.1 x1.2).bind fun c2 =>
   bif (decide ((c2.toNat : Int) >= 97)) then
    (idx x1.1 x1.2).bind fun c3 =>
    (idx x1.1 x1.2).bind fun c4 =>
    bif (decide ((c4.toNat : Int) >= 48)) then
     (idx x1.1 x1.2).bind fun c5 =>
     bif (!(decide ((c3.toNat : Int) <= 122))) then
      bif (x1.2 == 0) then
       some (.inr (false))
      else
       bif (!(decide ((c5.toNat : Int) <= 57))) then
        some (.inr (false))
       else
        some (.inl (x1.1, w64 (x1.2 + 1)))
     else
      some (.inl (x1.1, w64 (x1.2 + 1)))
    else
     bif (!(decide ((c3.toNat : Int) <= 122))) then
      bif (x1.2 == 0) then
       some (.inr (false))
      else
       some (.inr (false))
     else
      some (.inl (x1.1, w64 (x1.2 + 1)))
   else
   (idx x1.1 x1.2).bind fun c6 =>
   bif (decide ((c6.toNat : Int) >= 48)) then
    (idx x1.1 x1.2).bind fun c7 =>
    bif (x1.2 == 0) then
     some (.inr (false))
    else
     bif (!(decide ((c7.toNat : Int) <= 57))) then
      some (.inr (false))
     else
      some (.inl (x1.1, w64 (x1.2 + 1)))
   else
    bif (x1.2 == 0) then
     some (.inr (false))
    else
     some (.inr (false))
  else
   some (.inr ((decide ((x1.1.length : Int) > 0))))
 ) (a, 0)
def Ug : Fsp := ⟨99, [shF .str], [shF .bool], true, false, fun x => Bd x⟩
def zx (a : List Str) (b : Str) : Option (Bool) :=
 ah (fun (x1 : (List Str) × Str × Int) =>
  bif (decide (x1.2.2 < (x1.1.length : Int))) then
   (idx x1.1 x1.2.2).bind fun e2 =>
   bif (e2 == x1.2.1) then
    some (.inr (true))
   else
    some (.inl (x1.1, x1.2.1, w64 (x1.2.2 + 1)))
  else
   some (.inr (false))
 ) (a, b, 0)
def YQ : Fsp := ⟨138, [slF .str, shF .str], [shF .bool], true, false, fun x => zx x.1 x.2⟩
def qf : Option ((List Str)) :=
 some (([[108, 101, 116], [105, 110], [105, 102], [116, 104, 101, 110], [101, 108, 115, 101], [102, 111, 114], [100, 111], [108, 101, 110], [115, 117, 109], [116, 97, 107, 101], [115, 107, 105, 112], [114, 97, 110, 103, 101], [110, 116, 104], [119, 104, 101, 114, 101], [107, 101, 101, 112], [97, 100, 100], [103, 114, 111, 117, 112], [106, 111, 105, 110], [99, 111, 108, 117, 109, 110], [114, 111, 119, 115], [99, 108, 111, 99, 107], [99, 104, 97, 110, 99, 101], [102, 105, 108, 101], [116, 97, 98, 108, 101]] : List Str))
def KA : Fsp := ⟨139, [], [slF .str], true, false, fun x => qf⟩
def mP (a : Str) : Option (Bool) :=
 (qf).bind fun r1 =>
 (zx r1 a).bind fun r2 =>
 some (r2)
def KG : Fsp := ⟨100, [shF .str], [shF .bool], true, false, fun x => mP x⟩
def bU (a : Str) : Option (Bool) :=
 (Bd a).bind fun r1 =>
 bif r1 then
  bif (decide ((a.length : Int) <= 8)) then
   (mP a).bind fun r2 =>
   some ((!r2))
  else
   some (false)
 else
  some (false)
def H6 : Fsp := ⟨65, [shF .str], [shF .bool], true, false, fun x => bU x⟩
def iW (a : aV) : Option (Bool) :=
 (qg a.id 1 999).bind fun r1 =>
 bif (!r1) then
  some (false)
 else
 (qg a.version 1 999).bind fun r2 =>
 bif (!r2) then
  some (false)
 else
 (jD a.code).bind fun r3 =>
 bif (!r3) then
  some (false)
 else
 bif (a.kind == 1) then
  bif (a.name == []) then
   some ((a.n == 0))
  else
   some (false)
 else
 bif (a.kind == 2) then
  (bU a.name).bind fun r4 =>
  bif r4 then
   some ((a.n == 0))
  else
   some (false)
 else
 bif (a.kind == 4) then
  (bU a.name).bind fun r5 =>
  bif r5 then
   some ((a.n == 0))
  else
   some (false)
 else
 bif (a.kind == 3) then
  (bU a.name).bind fun r6 =>
  bif r6 then
   bif (a.code == []) then
    (qg a.n 0 100).bind fun r7 =>
    some (r7)
   else
    some (false)
  else
   some (false)
 else
  some (false)
def H8 : Fsp := ⟨38, [shT .cell], [shF .bool], true, false, fun x => iW x⟩
def tY (a : aW) (b : Int) : Option (Int) :=
 ah (fun (x1 : Int × (List aV) × Int) =>
  bif (decide (x1.2.2 < (x1.2.1.length : Int))) then
   (idx x1.2.1 x1.2.2).bind fun e2 =>
   bif (e2.id == x1.1) then
    some (.inr (x1.2.2))
   else
    some (.inl (x1.1, x1.2.1, w64 (x1.2.2 + 1)))
  else
   some (.inr ((-1)))
 ) (b, a.cells, 0)
def OI : Fsp := ⟨39, [shT .notebook, shF .int], [shF .int], true, false, fun x => tY x.1 x.2⟩
def iI (a : aW) : Option (Bool) :=
 ah (fun (x1 : (List aV) × Int) =>
  bif (decide (x1.2 < (x1.1.length : Int))) then
   (idx x1.1 x1.2).bind fun e2 =>
   (iW e2).bind fun r3 =>
   bif (!r3) then
    some (.inr (false))
   else
    (idx x1.1 x1.2).bind fun e4 =>
    (tY (aW.mk x1.1) e4.id).bind fun r5 =>
    bif (r5 != x1.2) then
     some (.inr (false))
    else
     some (.inl (x1.1, w64 (x1.2 + 1)))
  else
   some (.inr ((decide ((x1.1.length : Int) <= 8))))
 ) (a.cells, 0)
def zy : Fsp := ⟨19, [shT .notebook], [shF .bool], true, false, fun x => iI x⟩
def di (a : Int) : Option (Str) :=
 bif (a == 0) then
  some ([48])
 else
 ah (fun (x1 : Int × Bool × Str) =>
  bif (x1.1 != 0) then
   bif (decide ((x1.1.tmod 10) < 0)) then
    (gd ((bytesOf [w8 (w64 (48 + (w64 (0 - (x1.1.tmod 10)))))]).length + x1.2.2.length)).bind fun _ =>
    some (.inl (w64 (x1.1.tdiv 10), x1.2.1, (bytesOf [w8 (w64 (48 + (w64 (0 - (x1.1.tmod 10)))))]) ++ x1.2.2))
   else
    (gd ((bytesOf [w8 (w64 (48 + (x1.1.tmod 10)))]).length + x1.2.2.length)).bind fun _ =>
    some (.inl (w64 (x1.1.tdiv 10), x1.2.1, (bytesOf [w8 (w64 (48 + (x1.1.tmod 10)))]) ++ x1.2.2))
  else
   (
    bif x1.2.1 then
     (gd ([45].length + x1.2.2.length)).bind fun _ =>
     some ([45] ++ x1.2.2)
    else
     some (x1.2.2)
   ).bind fun r => some (.inr r)
 ) (a, (decide (a < 0)), [])
def OG : Fsp := ⟨29, [shF .int], [shF .str], true, false, fun x => di x⟩
def xU (a : Str) (b : Int) : Option (Int × Bool) :=
 bif (decide ((a.length : Int) > 0)) then
  (idx a 0).bind fun c1 =>
  bif ((c1.toNat : Int) == 45) then
   (eff.cutL a (some 1) none).bind fun r2 =>
   bif (decide ((r2.length : Int) < 1)) then
    some (0, false)
   else
   bif (decide ((r2.length : Int) > b)) then
    some (0, false)
   else
   ah (fun (x3 : Str × Bool × Str × Int × Int) =>
    bif (decide (x3.2.2.2.2 < (x3.2.2.1.length : Int))) then
     (idx x3.2.2.1 x3.2.2.2.2).bind fun c4 =>
     bif (decide ((c4.toNat : Int) < 48)) then
      some (.inr (0, false))
     else
      (idx x3.2.2.1 x3.2.2.2.2).bind fun c5 =>
      bif (decide ((c5.toNat : Int) > 57)) then
       some (.inr (0, false))
      else
       (idx x3.2.2.1 x3.2.2.2.2).bind fun c6 =>
       some (.inl (x3.1, x3.2.1, x3.2.2.1, w64 ((w64 (10 * x3.2.2.2.1)) + (w64 (w8 ((c6.toNat : Int) - 48)))), w64 (x3.2.2.2.2 + 1)))
    else
    (
     bif x3.2.1 then
      (di (w64 (0 - x3.2.2.2.1))).bind fun r7 =>
      bif (!(r7 == x3.1)) then
       some (0, false)
      else
       some (w64 (0 - x3.2.2.2.1), true)
     else
      (di x3.2.2.2.1).bind fun r8 =>
      bif (!(r8 == x3.1)) then
       some (0, false)
      else
       some (x3.2.2.2.1, true)
    ).bind fun r => some (.inr r)
   ) (a, ((c1.toNat : Int) == 45), r2, 0, 0)
  else
  bif (decide ((a.length : Int) < 1)) then
   some (0, false)
  else
  bif (decide ((a.length : Int) > b)) then
   some (0, false)
  else
  ah (fun (x9 : Str × Bool × Str × Int × Int) =>
   bif (decide (x9.2.2.2.2 < (x9.2.2.1.length : Int))) then
    (idx x9.2.2.1 x9.2.2.2.2).bind fun c10 =>
    bif (decide ((c10.toNat : Int) < 48)) then
     some (.inr (0, false))
    else
     (idx x9.2.2.1 x9.2.2.2.2).bind fun c11 =>
     bif (decide ((c11.toNat : Int) > 57)) then
      some (.inr (0, false))
     else
      (idx x9.2.2.1 x9.2.2.2.2).bind fun c12 =>
      some (.inl (x9.1, x9.2.1, x9.2.2.1, w64 ((w64 (10 * x9.2.2.2.1)) + (w64 (w8 ((c12.toNat : Int) - 48)))), w64 (x9.2.2.2.2 + 1)))
   else
   (
    bif x9.2.1 then
     (di (w64 (0 - x9.2.2.2.1))).bind fun r13 =>
     bif (!(r13 == x9.1)) then
      some (0, false)
     else
      some (w64 (0 - x9.2.2.2.1), true)
    else
     (di x9.2.2.2.1).bind fun r14 =>
     bif (!(r14 == x9.1)) then
      some (0, false)
     else
      some (x9.2.2.2.1, true)
   ).bind fun r => some (.inr r)
  ) (a, ((c1.toNat : Int) == 45), a, 0, 0)
 else
 bif (decide ((a.length : Int) < 1)) then
  some (0, false)
 else
 bif (decide ((a.length : Int) > b)) then
  some (0, false)
 else
 ah (fun (x15 : Str × Bool × Str × Int × Int) =>
  bif (decide (x15.2.2.2.2 < (x15.2.2.1.length : Int))) then
   (idx x15.2.2.1 x15.2.2.2.2).bind fun c16 =>
   bif (decide ((c16.toNat : Int) < 48)) then
    some (.inr (0, false))
   else
    (idx x15.2.2.1 x15.2.2.2.2).bind fun c17 =>
    bif (decide ((c17.toNat : Int) > 57)) then
     some (.inr (0, false))
    else
     (idx x15.2.2.1 x15.2.2.2.2).bind fun c18 =>
     some (.inl (x15.1, x15.2.1, x15.2.2.1, w64 ((w64 (10 * x15.2.2.2.1)) + (w64 (w8 ((c18.toNat : Int) - 48)))), w64 (x15.2.2.2.2 + 1)))
  else
  (
   bif x15.2.1 then
    (di (w64 (0 - x15.2.2.2.1))).bind fun r19 =>
    bif (!(r19 == x15.1)) then
     some (0, false)
    else
     some (w64 (0 - x15.2.2.2.1), true)
   else
    (di x15.2.2.2.1).bind fun r20 =>
    bif (!(r20 == x15.1)) then
     some (0, false)
    else
     some (x15.2.2.2.1, true)
  ).bind fun r => some (.inr r)
 ) (a, false, a, 0, 0)
def Xj : Fsp := ⟨180, [shF .str, shF .int], [shF .int, shF .bool], true, false, fun x => xU x.1 x.2⟩
def iG (a : Str) : Option (Int × Bool) :=
 (xU a 12).bind fun r1 =>
 some (r1.1, r1.2)
def Qw : Fsp := ⟨130, [shF .str], [shF .int, shF .bool], true, false, fun x => iG x⟩
def dS (a : Str) : Option (Bool) :=
 ah (fun (x1 : Str × Int) =>
  bif (decide (x1.2 < (x1.1.length : Int))) then
   (idx x1.1 x1.2).bind fun c2 =>
   bif (decide ((c2.toNat : Int) < 32)) then
    some (.inr (false))
   else
    (idx x1.1 x1.2).bind fun c3 =>
    bif (decide ((c3.toNat : Int) > 126)) then
     some (.inr (false))
    else
     (idx x1.1 x1.2).bind fun c4 =>
     bif ((c4.toNat : Int) == 34) then
      some (.inr (false))
     else
      some (.inl (x1.1, w64 (x1.2 + 1)))
  else
   some (.inr ((decide ((x1.1.length : Int) <= 20))))
 ) (a, 0)
def HY : Fsp := ⟨132, [shF .str], [shF .bool], true, false, fun x => dS x⟩
def qV (a : Int) : Option (Bool) :=
 bif (decide (a >= 97)) then
  some ((decide (a <= 122)))
 else
  some (false)
def QA : Fsp := ⟨171, [shF .u8], [shF .bool], true, false, fun x => qV x⟩
def qW (a : Int) : Option (Bool) :=
 bif (decide (a >= 48)) then
  some ((decide (a <= 57)))
 else
  some (false)
def Ue : Fsp := ⟨172, [shF .u8], [shF .bool], true, false, fun x => qW x⟩
def jC (a : Str) (b : Int) : Option (Int) :=
 (idx a b).bind fun c1 =>
 bif ((c1.toNat : Int) == 40) then
  some (1)
 else
 bif ((c1.toNat : Int) == 41) then
  some (1)
 else
 bif ((c1.toNat : Int) == 91) then
  some (1)
 else
 bif ((c1.toNat : Int) == 93) then
  some (1)
 else
 bif ((c1.toNat : Int) == 44) then
  some (1)
 else
 bif ((c1.toNat : Int) == 43) then
  some (1)
 else
 bif ((c1.toNat : Int) == 45) then
  some (1)
 else
 bif ((c1.toNat : Int) == 42) then
  some (1)
 else
 bif ((c1.toNat : Int) == 60) then
  some (1)
 else
 bif ((c1.toNat : Int) == 61) then
  bif (decide ((w64 (b + 1)) < (a.length : Int))) then
   (idx a (w64 (b + 1))).bind fun c2 =>
   bif ((c2.toNat : Int) == 61) then
    some (2)
   else
    some (1)
  else
   some (1)
 else
  some (0)
def Qz : Fsp := ⟨173, [shF .str, shF .int], [shF .int], true, false, fun x => jC x.1 x.2⟩
def jU (a : Str) (b : Int) : Option (aG × Int) :=
 (idx a b).bind fun c1 =>
 (qV (c1.toNat : Int)).bind fun r2 =>
 bif r2 then
  ah (fun (x3 : Str × Int × Int × Int × Int × Str × Int × Int × Int × Str × Int) =>
   bif (decide (x3.2.2.2.2.2.2.2.2.2.2 < (x3.1.length : Int))) then
    (idx x3.1 x3.2.2.2.2.2.2.2.2.2.2).bind fun c4 =>
    (qV (c4.toNat : Int)).bind fun r5 =>
    bif r5 then
     some (.inl (x3.1, x3.2.1, x3.2.2.1, x3.2.2.2.1, x3.2.2.2.2.1, x3.2.2.2.2.2.1, x3.2.2.2.2.2.2.1, x3.2.2.2.2.2.2.2.1, x3.2.2.2.2.2.2.2.2.1, x3.2.2.2.2.2.2.2.2.2.1, w64 (x3.2.2.2.2.2.2.2.2.2.2 + 1)))
    else
    (idx x3.1 x3.2.2.2.2.2.2.2.2.2.2).bind fun c6 =>
    (qW (c6.toNat : Int)).bind fun r7 =>
    bif r7 then
     some (.inl (x3.1, x3.2.1, x3.2.2.1, x3.2.2.2.1, x3.2.2.2.2.1, x3.2.2.2.2.2.1, x3.2.2.2.2.2.2.1, x3.2.2.2.2.2.2.2.1, x3.2.2.2.2.2.2.2.2.1, x3.2.2.2.2.2.2.2.2.2.1, w64 (x3.2.2.2.2.2.2.2.2.2.2 + 1)))
    else
     (
      (eff.cutL x3.1 (some x3.2.1) (some x3.2.2.2.2.2.2.2.2.2.2)).bind fun r8 =>
      bif (decide ((w64 (x3.2.2.2.2.2.2.2.2.2.2 - x3.2.1)) > 8)) then
       some (aG.mk 1 x3.2.2.2.2.2.2.2.1 x3.2.2.2.2.2.2.2.2.1 r8, 0)
      else
       some (aG.mk 1 x3.2.2.2.2.2.2.2.1 x3.2.2.2.2.2.2.2.2.1 r8, w64 (x3.2.2.2.2.2.2.2.2.2.2 - x3.2.1))
     ).bind fun r => some (.inr r)
   else
    (
     (eff.cutL x3.1 (some x3.2.1) (some x3.2.2.2.2.2.2.2.2.2.2)).bind fun r9 =>
     bif (decide ((w64 (x3.2.2.2.2.2.2.2.2.2.2 - x3.2.1)) > 8)) then
      some (aG.mk 1 x3.2.2.2.2.2.2.2.1 x3.2.2.2.2.2.2.2.2.1 r9, 0)
     else
      some (aG.mk 1 x3.2.2.2.2.2.2.2.1 x3.2.2.2.2.2.2.2.2.1 r9, w64 (x3.2.2.2.2.2.2.2.2.2.2 - x3.2.1))
    ).bind fun r => some (.inr r)
  ) (a, b, 0, 0, 0, [], 0, 0, b, [], b)
 else
 (idx a b).bind fun c10 =>
 (qW (c10.toNat : Int)).bind fun r11 =>
 bif r11 then
  ah (fun (x12 : Str × Int × Int × Int × Int × Str × Int × Int × Int × Str × Int) =>
   bif (decide (x12.2.2.2.2.2.2.2.2.2.2 < (x12.1.length : Int))) then
    (idx x12.1 x12.2.2.2.2.2.2.2.2.2.2).bind fun c13 =>
    (qW (c13.toNat : Int)).bind fun r14 =>
    bif r14 then
     some (.inl (x12.1, x12.2.1, x12.2.2.1, x12.2.2.2.1, x12.2.2.2.2.1, x12.2.2.2.2.2.1, x12.2.2.2.2.2.2.1, x12.2.2.2.2.2.2.2.1, x12.2.2.2.2.2.2.2.2.1, x12.2.2.2.2.2.2.2.2.2.1, w64 (x12.2.2.2.2.2.2.2.2.2.2 + 1)))
    else
     (
      (eff.cutL x12.1 (some x12.2.1) (some x12.2.2.2.2.2.2.2.2.2.2)).bind fun r15 =>
      (iG r15).bind fun r16 =>
      bif (!r16.2) then
       some (aG.mk 2 r16.1 x12.2.2.2.2.2.2.2.2.1 x12.2.2.2.2.2.2.2.2.2.1, 0)
      else
       bif (decide (r16.1 > 1000000000)) then
        some (aG.mk 2 r16.1 x12.2.2.2.2.2.2.2.2.1 x12.2.2.2.2.2.2.2.2.2.1, 0)
       else
        some (aG.mk 2 r16.1 x12.2.2.2.2.2.2.2.2.1 x12.2.2.2.2.2.2.2.2.2.1, w64 (x12.2.2.2.2.2.2.2.2.2.2 - x12.2.1))
     ).bind fun r => some (.inr r)
   else
    (
     (eff.cutL x12.1 (some x12.2.1) (some x12.2.2.2.2.2.2.2.2.2.2)).bind fun r17 =>
     (iG r17).bind fun r18 =>
     bif (!r18.2) then
      some (aG.mk 2 r18.1 x12.2.2.2.2.2.2.2.2.1 x12.2.2.2.2.2.2.2.2.2.1, 0)
     else
      bif (decide (r18.1 > 1000000000)) then
       some (aG.mk 2 r18.1 x12.2.2.2.2.2.2.2.2.1 x12.2.2.2.2.2.2.2.2.2.1, 0)
      else
       some (aG.mk 2 r18.1 x12.2.2.2.2.2.2.2.2.1 x12.2.2.2.2.2.2.2.2.2.1, w64 (x12.2.2.2.2.2.2.2.2.2.2 - x12.2.1))
    ).bind fun r => some (.inr r)
  ) (a, b, 0, 0, 0, [], 0, 0, b, [], b)
 else
 (idx a b).bind fun c19 =>
 bif ((c19.toNat : Int) == 34) then
  ah (fun (x20 : Str × Int × Int × Int × Int × Str × Int × Int × Int × Str × Int) =>
   bif (decide (x20.2.2.2.2.2.2.2.2.2.2 < (x20.1.length : Int))) then
    (idx x20.1 x20.2.2.2.2.2.2.2.2.2.2).bind fun c21 =>
    bif ((c21.toNat : Int) != 34) then
     some (.inl (x20.1, x20.2.1, x20.2.2.1, x20.2.2.2.1, x20.2.2.2.2.1, x20.2.2.2.2.2.1, x20.2.2.2.2.2.2.1, x20.2.2.2.2.2.2.2.1, x20.2.2.2.2.2.2.2.2.1, x20.2.2.2.2.2.2.2.2.2.1, w64 (x20.2.2.2.2.2.2.2.2.2.2 + 1)))
    else
     (
      (eff.cutL x20.1 (some (w64 (x20.2.1 + 1))) (some x20.2.2.2.2.2.2.2.2.2.2)).bind fun r22 =>
      bif (x20.2.2.2.2.2.2.2.2.2.2 == (x20.1.length : Int)) then
       some (aG.mk 3 x20.2.2.2.2.2.2.2.1 x20.2.2.2.2.2.2.2.2.1 r22, 0)
      else
       (dS r22).bind fun r23 =>
       bif (!r23) then
        some (aG.mk 3 x20.2.2.2.2.2.2.2.1 x20.2.2.2.2.2.2.2.2.1 r22, 0)
       else
        some (aG.mk 3 x20.2.2.2.2.2.2.2.1 x20.2.2.2.2.2.2.2.2.1 r22, w64 ((w64 (x20.2.2.2.2.2.2.2.2.2.2 + 1)) - x20.2.1))
     ).bind fun r => some (.inr r)
   else
    (
     (eff.cutL x20.1 (some (w64 (x20.2.1 + 1))) (some x20.2.2.2.2.2.2.2.2.2.2)).bind fun r24 =>
     bif (x20.2.2.2.2.2.2.2.2.2.2 == (x20.1.length : Int)) then
      some (aG.mk 3 x20.2.2.2.2.2.2.2.1 x20.2.2.2.2.2.2.2.2.1 r24, 0)
     else
      (dS r24).bind fun r25 =>
      bif (!r25) then
       some (aG.mk 3 x20.2.2.2.2.2.2.2.1 x20.2.2.2.2.2.2.2.2.1 r24, 0)
      else
       some (aG.mk 3 x20.2.2.2.2.2.2.2.1 x20.2.2.2.2.2.2.2.2.1 r24, w64 ((w64 (x20.2.2.2.2.2.2.2.2.2.2 + 1)) - x20.2.1))
    ).bind fun r => some (.inr r)
  ) (a, b, 0, 0, 0, [], 0, 0, b, [], w64 (b + 1))
 else
  (jC a b).bind fun r26 =>
  (eff.cutL a (some b) (some (w64 (b + r26)))).bind fun r27 =>
  some (aG.mk 4 0 b r27, w64 ((w64 (b + r26)) - b))
def Xf : Fsp := ⟨122, [shF .str, shF .int], [shT .token, shF .int], true, false, fun x => jU x.1 x.2⟩
def qU (a : Str) : Option ((List aG) × Int) :=
 bif (decide ((a.length : Int) > 120)) then
  some ([], 120)
 else
 ah (fun (x1 : Str × (List aG) × Int) =>
  bif (decide (x1.2.2 < (x1.1.length : Int))) then
   (idx x1.1 x1.2.2).bind fun c2 =>
   bif ((c2.toNat : Int) == 32) then
    some (.inl (x1.1, x1.2.1, w64 (x1.2.2 + 1)))
   else
    (jU x1.1 x1.2.2).bind fun r3 =>
    bif (r3.2 == 0) then
     some (.inr ([], x1.2.2))
    else
     bif ((x1.2.1.length : Int) == 60) then
      some (.inr ([], x1.2.2))
     else
      (gd (x1.2.1.length + [r3.1].length)).bind fun _ =>
      some (.inl (x1.1, x1.2.1 ++ [r3.1], w64 (x1.2.2 + r3.2)))
  else
   some (.inr (x1.2.1, (-1)))
 ) (a, [], 0)
def Qu : Fsp := ⟨87, [shF .str], [slF .token, shF .int], true, false, fun x => qU x⟩
def fD (a : aG) (b : Str) : Option (Bool) :=
 bif (a.kind == 4) then
  some ((a.text == b))
 else
  some (false)
def QM : Fsp := ⟨174, [shT .token, shF .str], [shF .bool], true, false, fun x => fD x.1 x.2⟩
def tN (a : aG) (b : Str) : Option (Bool) :=
 bif (a.kind == 1) then
  some ((a.text == b))
 else
  some (false)
def OD : Fsp := ⟨175, [shT .token, shF .str], [shF .bool], true, false, fun x => tN x.1 x.2⟩
def dF (a : GRd) (b : Str) : Option (GRd × Bool) :=
 bif (decide (a.bad < 0)) then
  bif (decide (a.i < (a.toks.length : Int))) then
   (idx a.toks a.i).bind fun e1 =>
   (fD e1 b).bind fun r2 =>
   bif r2 then
    some (a, true)
   else
    (idx a.toks a.i).bind fun e3 =>
    (tN e3 b).bind fun r4 =>
    some (a, r4)
  else
   some (a, false)
 else
  some (a, false)
def Uk : Fsp := ⟨123, [shT .rd, shF .str], [shT .rd, shF .bool], false, false, fun x => dF x.1 x.2⟩
def fH (a : GRd) : Option (GRd × af) :=
 bif (decide (a.bad < 0)) then
  bif (decide (a.i < (a.toks.length : Int))) then
   (idx a.toks a.i).bind fun e1 =>
   some (GRd.mk a.toks a.i a.stop e1.pos, af.mk 0 0 [] [])
  else
   some (GRd.mk a.toks a.i a.stop a.stop, af.mk 0 0 [] [])
 else
  some (a, af.mk 0 0 [] [])
def Um : Fsp := ⟨89, [shT .rd], [shT .rd, shT .expr], false, true, fun x => fH x⟩
def wC (a : GRd) : Option (GRd × Str) :=
 bif (decide (a.bad >= 0)) then
  (fH a).bind fun r1 =>
  some (r1.1, [])
 else
 bif (decide (a.i >= (a.toks.length : Int))) then
  (fH a).bind fun r2 =>
  some (r2.1, [])
 else
 (idx a.toks a.i).bind fun e3 =>
 bif (e3.kind != 1) then
  (fH a).bind fun r4 =>
  some (r4.1, [])
 else
  (idx a.toks a.i).bind fun e5 =>
  (bU e5.text).bind fun r6 =>
  bif (!r6) then
   (fH a).bind fun r7 =>
   some (r7.1, [])
  else
   (idx a.toks (w64 ((w64 (a.i + 1)) - 1))).bind fun e8 =>
   some (GRd.mk a.toks (w64 (a.i + 1)) a.stop a.bad, e8.text)
def Ul : Fsp := ⟨124, [shT .rd], [shT .rd, shF .str], false, false, fun x => wC x⟩
def dH (a : GRd) (b : Str) : Option (GRd) :=
 (dF a b).bind fun r1 =>
 bif (!r1.2) then
  (fH r1.1).bind fun r2 =>
  some (r2.1)
 else
  some (GRd.mk r1.1.toks (w64 (r1.1.i + 1)) r1.1.stop r1.1.bad)
def Uj : Fsp := ⟨125, [shT .rd, shF .str], [shT .rd], false, false, fun x => dH x.1 x.2⟩
def jl (a : Int) (b : af) (c : af) : Option (af) :=
 some (af.mk 6 a [] [aj b, aj c])
def YT : Fsp := ⟨177, [shF .int, shT .expr, shT .expr], [shT .expr], false, true, fun x => jl x.1 x.2.1 x.2.2⟩
def dw (a : Str) : Option (Int) :=
 bif (a == [99, 108, 111, 99, 107]) then
  some (0)
 else
 bif (a == [108, 101, 110]) then
  some (1)
 else
 bif (a == [115, 117, 109]) then
  some (1)
 else
 bif (a == [114, 111, 119, 115]) then
  some (1)
 else
 bif (a == [99, 104, 97, 110, 99, 101]) then
  some (1)
 else
 bif (a == [102, 105, 108, 101]) then
  some (1)
 else
 bif (a == [116, 97, 107, 101]) then
  some (2)
 else
 bif (a == [115, 107, 105, 112]) then
  some (2)
 else
 bif (a == [114, 97, 110, 103, 101]) then
  some (2)
 else
 bif (a == [110, 116, 104]) then
  some (2)
 else
 bif (a == [107, 101, 101, 112]) then
  some (2)
 else
 bif (a == [99, 111, 108, 117, 109, 110]) then
  some (2)
 else
 bif (a == [116, 97, 98, 108, 101]) then
  some (2)
 else
 bif (a == [119, 104, 101, 114, 101]) then
  some (3)
 else
  bif (a == [103, 114, 111, 117, 112]) then
   some (3)
  else
   bif (a == [106, 111, 105, 110]) then
    some (3)
   else
    bif (a == [97, 100, 100]) then
     some (4)
    else
     some ((-1))
def Dq : Fsp := ⟨207, [shF .str], [shF .int], true, false, fun x => dw x⟩
def OC (a : Int) : Option (af) :=
 some (af.mk 1 a [] [])
def Xm : Fsp := ⟨258, [shF .int], [shT .expr], true, false, fun x => OC x⟩
def Hu (a : Str) : Option (af) :=
 some (af.mk 3 0 a [])
def Ut : Fsp := ⟨259, [shF .str], [shT .expr], true, false, fun x => Hu x⟩
def Dn (rsL11Expr : GRd -> Option (GRd × af)) (rsL11Compare : GRd -> Option (GRd × af)) (rsL11Sum : GRd -> Option (GRd × af)) (rsL11Product : GRd -> Option (GRd × af)) (rsL11Atom : GRd -> Option (GRd × af)) (rsL11Args : GRd -> Str -> Option (GRd × (List af))) (a : GRd) : Option (GRd × af) :=
 (dF a [108, 101, 116]).bind fun r1 =>
 bif r1.2 then
  (wC (GRd.mk r1.1.toks (w64 (r1.1.i + 1)) r1.1.stop r1.1.bad)).bind fun r2 =>
  (dH r2.1 [61]).bind fun r3 =>
  (rsL11Expr r3).bind fun r4 =>
  (dH r4.1 [105, 110]).bind fun r5 =>
  (rsL11Expr r5).bind fun r6 =>
  some (r6.1, af.mk 7 0 r2.2 [aj r4.2, aj r6.2])
 else
 (dF r1.1 [105, 102]).bind fun r7 =>
 bif r7.2 then
  (rsL11Expr (GRd.mk r7.1.toks (w64 (r7.1.i + 1)) r7.1.stop r7.1.bad)).bind fun r8 =>
  (dH r8.1 [116, 104, 101, 110]).bind fun r9 =>
  (rsL11Expr r9).bind fun r10 =>
  (dH r10.1 [101, 108, 115, 101]).bind fun r11 =>
  (rsL11Expr r11).bind fun r12 =>
  some (r12.1, af.mk 8 0 [] [aj r8.2, aj r10.2, aj r12.2])
 else
 (dF r7.1 [102, 111, 114]).bind fun r13 =>
 bif r13.2 then
  (wC (GRd.mk r13.1.toks (w64 (r13.1.i + 1)) r13.1.stop r13.1.bad)).bind fun r14 =>
  (dH r14.1 [105, 110]).bind fun r15 =>
  (rsL11Expr r15).bind fun r16 =>
  (dH r16.1 [100, 111]).bind fun r17 =>
  (rsL11Expr r17).bind fun r18 =>
  some (r18.1, af.mk 9 0 r14.2 [aj r16.2, aj r18.2])
 else
  (rsL11Compare r13.1).bind fun r19 =>
  some (r19.1, aj r19.2)
def nO (rsL11Expr : GRd -> Option (GRd × af)) (rsL11Compare : GRd -> Option (GRd × af)) (rsL11Sum : GRd -> Option (GRd × af)) (rsL11Product : GRd -> Option (GRd × af)) (rsL11Atom : GRd -> Option (GRd × af)) (rsL11Args : GRd -> Str -> Option (GRd × (List af))) (a : GRd) : Option (GRd × af) :=
 (rsL11Sum a).bind fun r1 =>
 (dF r1.1 [60]).bind fun r2 =>
 bif r2.2 then
  (rsL11Sum (GRd.mk r2.1.toks (w64 (r2.1.i + 1)) r2.1.stop r2.1.bad)).bind fun r3 =>
  (jl 4 (aj r1.2) (aj r3.2)).bind fun r4 =>
  some (r3.1, aj r4)
 else
  (dF r2.1 [61, 61]).bind fun r5 =>
  bif r5.2 then
   (rsL11Sum (GRd.mk r5.1.toks (w64 (r5.1.i + 1)) r5.1.stop r5.1.bad)).bind fun r6 =>
   (jl 5 (aj r1.2) (aj r6.2)).bind fun r7 =>
   some (r6.1, aj r7)
  else
   some (r5.1, aj r1.2)
def Hl (rsL11Expr : GRd -> Option (GRd × af)) (rsL11Compare : GRd -> Option (GRd × af)) (rsL11Sum : GRd -> Option (GRd × af)) (rsL11Product : GRd -> Option (GRd × af)) (rsL11Atom : GRd -> Option (GRd × af)) (rsL11Args : GRd -> Str -> Option (GRd × (List af))) (a : GRd) : Option (GRd × af) :=
 (rsL11Product a).bind fun r1 =>
 ah (fun (x2 : (List aG) × Int × Int × Int × Int × Int × Str × (List af) × Int × Int × Str × (List af)) =>
  (dF (GRd.mk x2.1 x2.2.1 x2.2.2.1 x2.2.2.2.1) [43]).bind fun r3 =>
  bif r3.2 then
   (dF r3.1 [45]).bind fun r4 =>
   bif r4.2 then
    (rsL11Product (GRd.mk r4.1.toks (w64 (r4.1.i + 1)) r4.1.stop r4.1.bad)).bind fun r5 =>
    (jl 2 (af.mk x2.2.2.2.2.2.2.2.2.1 x2.2.2.2.2.2.2.2.2.2.1 x2.2.2.2.2.2.2.2.2.2.2.1 x2.2.2.2.2.2.2.2.2.2.2.2) (aj r5.2)).bind fun r6 =>
    some (.inl (r5.1.toks, r5.1.i, r5.1.stop, r5.1.bad, x2.2.2.2.2.1, x2.2.2.2.2.2.1, x2.2.2.2.2.2.2.1, x2.2.2.2.2.2.2.2.1, r6.kind, r6.n, r6.text, r6.args))
   else
    (rsL11Product (GRd.mk r4.1.toks (w64 (r4.1.i + 1)) r4.1.stop r4.1.bad)).bind fun r7 =>
    (jl 1 (af.mk x2.2.2.2.2.2.2.2.2.1 x2.2.2.2.2.2.2.2.2.2.1 x2.2.2.2.2.2.2.2.2.2.2.1 x2.2.2.2.2.2.2.2.2.2.2.2) (aj r7.2)).bind fun r8 =>
    some (.inl (r7.1.toks, r7.1.i, r7.1.stop, r7.1.bad, x2.2.2.2.2.1, x2.2.2.2.2.2.1, x2.2.2.2.2.2.2.1, x2.2.2.2.2.2.2.2.1, r8.kind, r8.n, r8.text, r8.args))
  else
  (dF r3.1 [45]).bind fun r9 =>
  bif r9.2 then
   (dF r9.1 [45]).bind fun r10 =>
   bif r10.2 then
    (rsL11Product (GRd.mk r10.1.toks (w64 (r10.1.i + 1)) r10.1.stop r10.1.bad)).bind fun r11 =>
    (jl 2 (af.mk x2.2.2.2.2.2.2.2.2.1 x2.2.2.2.2.2.2.2.2.2.1 x2.2.2.2.2.2.2.2.2.2.2.1 x2.2.2.2.2.2.2.2.2.2.2.2) (aj r11.2)).bind fun r12 =>
    some (.inl (r11.1.toks, r11.1.i, r11.1.stop, r11.1.bad, x2.2.2.2.2.1, x2.2.2.2.2.2.1, x2.2.2.2.2.2.2.1, x2.2.2.2.2.2.2.2.1, r12.kind, r12.n, r12.text, r12.args))
   else
    (rsL11Product (GRd.mk r10.1.toks (w64 (r10.1.i + 1)) r10.1.stop r10.1.bad)).bind fun r13 =>
    (jl 1 (af.mk x2.2.2.2.2.2.2.2.2.1 x2.2.2.2.2.2.2.2.2.2.1 x2.2.2.2.2.2.2.2.2.2.2.1 x2.2.2.2.2.2.2.2.2.2.2.2) (aj r13.2)).bind fun r14 =>
    some (.inl (r13.1.toks, r13.1.i, r13.1.stop, r13.1.bad, x2.2.2.2.2.1, x2.2.2.2.2.2.1, x2.2.2.2.2.2.2.1, x2.2.2.2.2.2.2.2.1, r14.kind, r14.n, r14.text, r14.args))
  else
   some (.inr (r9.1, af.mk x2.2.2.2.2.2.2.2.2.1 x2.2.2.2.2.2.2.2.2.2.1 x2.2.2.2.2.2.2.2.2.2.2.1 x2.2.2.2.2.2.2.2.2.2.2.2))
 ) (r1.1.toks, r1.1.i, r1.1.stop, r1.1.bad, 0, 0, [], [], r1.2.kind, r1.2.n, r1.2.text, r1.2.args)
def tK (rsL11Expr : GRd -> Option (GRd × af)) (rsL11Compare : GRd -> Option (GRd × af)) (rsL11Sum : GRd -> Option (GRd × af)) (rsL11Product : GRd -> Option (GRd × af)) (rsL11Atom : GRd -> Option (GRd × af)) (rsL11Args : GRd -> Str -> Option (GRd × (List af))) (a : GRd) : Option (GRd × af) :=
 (rsL11Atom a).bind fun r1 =>
 ah (fun (x2 : (List aG) × Int × Int × Int × Int × Int × Str × (List af) × Int × Int × Str × (List af)) =>
  (dF (GRd.mk x2.1 x2.2.1 x2.2.2.1 x2.2.2.2.1) [42]).bind fun r3 =>
  bif r3.2 then
   (rsL11Atom (GRd.mk r3.1.toks (w64 (r3.1.i + 1)) r3.1.stop r3.1.bad)).bind fun r4 =>
   (jl 3 (af.mk x2.2.2.2.2.2.2.2.2.1 x2.2.2.2.2.2.2.2.2.2.1 x2.2.2.2.2.2.2.2.2.2.2.1 x2.2.2.2.2.2.2.2.2.2.2.2) (aj r4.2)).bind fun r5 =>
   some (.inl (r4.1.toks, r4.1.i, r4.1.stop, r4.1.bad, x2.2.2.2.2.1, x2.2.2.2.2.2.1, x2.2.2.2.2.2.2.1, x2.2.2.2.2.2.2.2.1, r5.kind, r5.n, r5.text, r5.args))
  else
   some (.inr (r3.1, af.mk x2.2.2.2.2.2.2.2.2.1 x2.2.2.2.2.2.2.2.2.2.1 x2.2.2.2.2.2.2.2.2.2.2.1 x2.2.2.2.2.2.2.2.2.2.2.2))
 ) (r1.1.toks, r1.1.i, r1.1.stop, r1.1.bad, 0, 0, [], [], r1.2.kind, r1.2.n, r1.2.text, r1.2.args)
def xY (rsL11Expr : GRd -> Option (GRd × af)) (rsL11Compare : GRd -> Option (GRd × af)) (rsL11Sum : GRd -> Option (GRd × af)) (rsL11Product : GRd -> Option (GRd × af)) (rsL11Atom : GRd -> Option (GRd × af)) (rsL11Args : GRd -> Str -> Option (GRd × (List af))) (a : GRd) : Option (GRd × af) :=
 bif (decide (a.bad >= 0)) then
  (fH a).bind fun r1 =>
  some (r1.1, aj r1.2)
 else
 bif (decide (a.i >= (a.toks.length : Int))) then
  (fH a).bind fun r2 =>
  some (r2.1, aj r2.2)
 else
 (idx a.toks a.i).bind fun e3 =>
 bif (e3.kind == 2) then
  (OC e3.n).bind fun r4 =>
  some (GRd.mk a.toks (w64 (a.i + 1)) a.stop a.bad, aj r4)
 else
 bif (e3.kind == 3) then
  some (GRd.mk a.toks (w64 (a.i + 1)) a.stop a.bad, af.mk 2 0 e3.text [])
 else
 bif (e3.kind == 1) then
  (bU e3.text).bind fun r5 =>
  bif r5 then
   (Hu e3.text).bind fun r6 =>
   some (GRd.mk a.toks (w64 (a.i + 1)) a.stop a.bad, aj r6)
  else
  bif (e3.kind == 1) then
   (dw e3.text).bind fun r7 =>
   bif (decide (r7 >= 0)) then
    (dH (GRd.mk a.toks (w64 (a.i + 1)) a.stop a.bad) [40]).bind fun r8 =>
    (rsL11Args r8 [41]).bind fun r9 =>
    some (r9.1, af.mk 5 0 e3.text r9.2)
   else
   (fD e3 [91]).bind fun r10 =>
   bif r10 then
    (rsL11Args (GRd.mk a.toks (w64 (a.i + 1)) a.stop a.bad) [93]).bind fun r11 =>
    some (r11.1, af.mk 4 0 [] r11.2)
   else
    (fD e3 [40]).bind fun r12 =>
    bif r12 then
     (rsL11Expr (GRd.mk a.toks (w64 (a.i + 1)) a.stop a.bad)).bind fun r13 =>
     (dH r13.1 [41]).bind fun r14 =>
     some (r14, aj r13.2)
    else
     (fH a).bind fun r15 =>
     some (r15.1, aj r15.2)
  else
  (fD e3 [91]).bind fun r16 =>
  bif r16 then
   (rsL11Args (GRd.mk a.toks (w64 (a.i + 1)) a.stop a.bad) [93]).bind fun r17 =>
   some (r17.1, af.mk 4 0 [] r17.2)
  else
   (fD e3 [40]).bind fun r18 =>
   bif r18 then
    (rsL11Expr (GRd.mk a.toks (w64 (a.i + 1)) a.stop a.bad)).bind fun r19 =>
    (dH r19.1 [41]).bind fun r20 =>
    some (r20, aj r19.2)
   else
    (fH a).bind fun r21 =>
    some (r21.1, aj r21.2)
 else
 bif (e3.kind == 1) then
  (dw e3.text).bind fun r22 =>
  bif (decide (r22 >= 0)) then
   (dH (GRd.mk a.toks (w64 (a.i + 1)) a.stop a.bad) [40]).bind fun r23 =>
   (rsL11Args r23 [41]).bind fun r24 =>
   some (r24.1, af.mk 5 0 e3.text r24.2)
  else
  (fD e3 [91]).bind fun r25 =>
  bif r25 then
   (rsL11Args (GRd.mk a.toks (w64 (a.i + 1)) a.stop a.bad) [93]).bind fun r26 =>
   some (r26.1, af.mk 4 0 [] r26.2)
  else
   (fD e3 [40]).bind fun r27 =>
   bif r27 then
    (rsL11Expr (GRd.mk a.toks (w64 (a.i + 1)) a.stop a.bad)).bind fun r28 =>
    (dH r28.1 [41]).bind fun r29 =>
    some (r29, aj r28.2)
   else
    (fH a).bind fun r30 =>
    some (r30.1, aj r30.2)
 else
 (fD e3 [91]).bind fun r31 =>
 bif r31 then
  (rsL11Args (GRd.mk a.toks (w64 (a.i + 1)) a.stop a.bad) [93]).bind fun r32 =>
  some (r32.1, af.mk 4 0 [] r32.2)
 else
  (fD e3 [40]).bind fun r33 =>
  bif r33 then
   (rsL11Expr (GRd.mk a.toks (w64 (a.i + 1)) a.stop a.bad)).bind fun r34 =>
   (dH r34.1 [41]).bind fun r35 =>
   some (r35, aj r34.2)
  else
   (fH a).bind fun r36 =>
   some (r36.1, aj r36.2)
def qX (rsL11Expr : GRd -> Option (GRd × af)) (rsL11Compare : GRd -> Option (GRd × af)) (rsL11Sum : GRd -> Option (GRd × af)) (rsL11Product : GRd -> Option (GRd × af)) (rsL11Atom : GRd -> Option (GRd × af)) (rsL11Args : GRd -> Str -> Option (GRd × (List af))) (a : GRd) (b : Str) : Option (GRd × (List af)) :=
 (dF a b).bind fun r1 =>
 bif r1.2 then
  some (GRd.mk r1.1.toks (w64 (r1.1.i + 1)) r1.1.stop r1.1.bad, [])
 else
 ah (fun (x2 : (List aG) × Int × Int × Int × Str × (List af)) =>
  bif (decide (x2.2.2.2.1 < 0)) then
   (rsL11Expr (GRd.mk x2.1 x2.2.1 x2.2.2.1 x2.2.2.2.1)).bind fun r3 =>
   (gd (x2.2.2.2.2.2.length + [aj r3.2].length)).bind fun _ =>
   (dF r3.1 [44]).bind fun r4 =>
   bif (!r4.2) then
    (
     (dH r4.1 x2.2.2.2.2.1).bind fun r5 =>
     some (r5, x2.2.2.2.2.2 ++ [aj r3.2])
    ).bind fun r => some (.inr r)
   else
    some (.inl (r4.1.toks, w64 (r4.1.i + 1), r4.1.stop, r4.1.bad, x2.2.2.2.2.1, x2.2.2.2.2.2 ++ [aj r3.2]))
  else
   (
    (dH (GRd.mk x2.1 x2.2.1 x2.2.2.1 x2.2.2.2.1) x2.2.2.2.2.1).bind fun r6 =>
    some (r6, x2.2.2.2.2.2)
   ).bind fun r => some (.inr r)
 ) (r1.1.toks, r1.1.i, r1.1.stop, r1.1.bad, b, [])
def aA : Nat -> (GRd -> Option (GRd × af)) × (GRd -> Option (GRd × af)) × (GRd -> Option (GRd × af)) × (GRd -> Option (GRd × af)) × (GRd -> Option (GRd × af)) × (GRd -> Str -> Option (GRd × (List af)))
 | 0 => (fun _ => none, fun _ => none, fun _ => none, fun _ => none, fun _ => none, fun _ _ => none)
 | n + 1 => (Dn (aA n).1 (aA n).2.1 (aA n).2.2.1 (aA n).2.2.2.1 (aA n).2.2.2.2.1 (aA n).2.2.2.2.2, nO (aA n).1 (aA n).2.1 (aA n).2.2.1 (aA n).2.2.2.1 (aA n).2.2.2.2.1 (aA n).2.2.2.2.2, Hl (aA n).1 (aA n).2.1 (aA n).2.2.1 (aA n).2.2.2.1 (aA n).2.2.2.2.1 (aA n).2.2.2.2.2, tK (aA n).1 (aA n).2.1 (aA n).2.2.1 (aA n).2.2.2.1 (aA n).2.2.2.2.1 (aA n).2.2.2.2.2, xY (aA n).1 (aA n).2.1 (aA n).2.2.1 (aA n).2.2.2.1 (aA n).2.2.2.2.1 (aA n).2.2.2.2.2, qX (aA n).1 (aA n).2.1 (aA n).2.2.1 (aA n).2.2.2.1 (aA n).2.2.2.2.1 (aA n).2.2.2.2.2)
def Hq (a : GRd) : Option (GRd × af) := (aA (siz a + 1)).1 a
def Un : Fsp := ⟨88, [shT .rd], [shT .rd, shT .expr], false, false, fun x => Hq x⟩
def Ey (n : Nat) : Fsp := ⟨88, [shT .rd], [shT .rd, shT .expr], false, false, fun x => (aA n).1 x⟩
def QL (a : GRd) : Option (GRd × af) := (aA (siz a + 1)).2.1 a
def KE : Fsp := ⟨126, [shT .rd], [shT .rd, shT .expr], false, false, fun x => QL x⟩
def wE (n : Nat) : Fsp := ⟨126, [shT .rd], [shT .rd, shT .expr], false, false, fun x => (aA n).2.1 x⟩
def aaZ (a : GRd) : Option (GRd × af) := (aA (siz a + 1)).2.2.1 a
def Xl : Fsp := ⟨176, [shT .rd], [shT .rd, shT .expr], false, false, fun x => aaZ x⟩
def Hg (n : Nat) : Fsp := ⟨176, [shT .rd], [shT .rd, shT .expr], false, false, fun x => (aA n).2.2.1 x⟩
def QK (a : GRd) : Option (GRd × af) := (aA (siz a + 1)).2.2.2.1 a
def KD : Fsp := ⟨206, [shT .rd], [shT .rd, shT .expr], false, false, fun x => QK x⟩
def wB (n : Nat) : Fsp := ⟨206, [shT .rd], [shT .rd, shT .expr], false, false, fun x => (aA n).2.2.2.1 x⟩
def YR (a : GRd) : Option (GRd × af) := (aA (siz a + 1)).2.2.2.2.1 a
def Uo : Fsp := ⟨231, [shT .rd], [shT .rd, shT .expr], false, false, fun x => YR x⟩
def Ez (n : Nat) : Fsp := ⟨231, [shT .rd], [shT .rd, shT .expr], false, false, fun x => (aA n).2.2.2.2.1 x⟩
def YS (a : GRd) (b : Str) : Option (GRd × (List af)) := (aA (siz a + 1)).2.2.2.2.2 a b
def Ur : Fsp := ⟨260, [shT .rd, shF .str], [shT .rd, slF .expr], false, false, fun x => YS x.1 x.2⟩
def EC (n : Nat) : Fsp := ⟨260, [shT .rd, shF .str], [shT .rd, slF .expr], false, false, fun x => (aA n).2.2.2.2.2 x.1 x.2⟩
def Dp (rsL10Left : af -> Int -> Option (Int)) (a : af) (b : Int) : Option (Int) :=
 ah (fun (x1 : Int × Int × Int × Str × (List af) × Int) =>
  bif (decide (x1.2.2.2.2.2 < (x1.2.2.2.2.1.length : Int))) then
   bif (decide (x1.1 >= 0)) then
    (idx x1.2.2.2.2.1 x1.2.2.2.2.2).bind fun e2 =>
    (rsL10Left (aj e2) x1.1).bind fun r3 =>
    some (.inl (r3, x1.2.1, x1.2.2.1, x1.2.2.2.1, x1.2.2.2.2.1, w64 (x1.2.2.2.2.2 + 1)))
   else
    some (.inr (x1.1))
  else
   some (.inr (x1.1))
 ) (w64 (b - 1), a.kind, a.n, a.text, a.args, 0)
def qY : Nat -> (af -> Int -> Option (Int))
 | 0 => fun _ _ => none
 | n + 1 => Dp (qY n)
def Hy (a : af) (b : Int) : Option (Int) := (qY (siz a + 1)) a b
def Uu : Fsp := ⟨127, [shT .expr, shF .int], [shF .int], true, false, fun x => Hy x.1 x.2⟩
def ED (n : Nat) : Fsp := ⟨127, [shT .expr, shF .int], [shF .int], true, false, fun x => (qY n) x.1 x.2⟩
def OB (a : Int) (b : Int) : Option (Int) :=
 bif (decide (a > b)) then
  some (a)
 else
  some (b)
def YP : Fsp := ⟨178, [shF .int, shF .int], [shF .int], true, false, fun x => OB x.1 x.2⟩
def mM (rsNestingOf : af -> Option (Int)) (a : af) : Option (Int) :=
 ah (fun (x1 : Int × Int × Str × (List af) × Int × Int) =>
  bif (decide (x1.2.2.2.2.2 < (x1.2.2.2.1.length : Int))) then
   (idx x1.2.2.2.1 x1.2.2.2.2.2).bind fun e2 =>
   (rsNestingOf (aj e2)).bind fun r3 =>
   (OB x1.2.2.2.2.1 r3).bind fun r4 =>
   some (.inl (x1.1, x1.2.1, x1.2.2.1, x1.2.2.2.1, r4, w64 (x1.2.2.2.2.2 + 1)))
  else
   some (.inr (w64 (x1.2.2.2.2.1 + 1)))
 ) (a.kind, a.n, a.text, a.args, 0, 0)
def iR : Nat -> (af -> Option (Int))
 | 0 => fun _ => none
 | n + 1 => mM (iR n)
def zu (a : af) : Option (Int) := (iR (siz a + 1)) a
def Ov : Fsp := ⟨128, [shT .expr], [shF .int], true, false, fun x => zu x⟩
def yM (n : Nat) : Fsp := ⟨128, [shT .expr], [shF .int], true, false, fun x => (iR n) x⟩
def kP (a : af) : Option (Bool) :=
 bif (a.kind == 1) then
  bif ((a.args.length : Int) == 0) then
   bif (a.text == []) then
    (qg a.n 0 1000000000).bind fun r1 =>
    some (r1)
   else
    some (false)
  else
   some (false)
 else
 bif (a.kind == 2) then
  bif ((a.args.length : Int) == 0) then
   bif (a.n == 0) then
    (dS a.text).bind fun r2 =>
    some (r2)
   else
    some (false)
  else
   some (false)
 else
 bif (a.kind == 3) then
  bif ((a.args.length : Int) == 0) then
   bif (a.n == 0) then
    (bU a.text).bind fun r3 =>
    some (r3)
   else
    some (false)
  else
   some (false)
 else
 bif (a.kind == 4) then
  bif (a.n == 0) then
   bif (a.text == []) then
    some ((decide ((a.args.length : Int) <= 8)))
   else
    some (false)
  else
   some (false)
 else
 bif (a.kind == 5) then
  bif (a.n == 0) then
   (dw a.text).bind fun r4 =>
   some (((a.args.length : Int) == r4))
  else
   some (false)
 else
 bif (a.kind == 6) then
  bif (a.text == []) then
   bif ((a.args.length : Int) == 2) then
    (qg a.n 1 5).bind fun r5 =>
    some (r5)
   else
    some (false)
  else
   some (false)
 else
 bif (a.kind == 7) then
  bif (a.n == 0) then
   bif ((a.args.length : Int) == 2) then
    (bU a.text).bind fun r6 =>
    some (r6)
   else
    some (false)
  else
   some (false)
 else
 bif (a.kind == 9) then
  bif (a.n == 0) then
   bif ((a.args.length : Int) == 2) then
    (bU a.text).bind fun r7 =>
    some (r7)
   else
    some (false)
  else
   some (false)
 else
  bif (a.kind == 8) then
   bif (a.n == 0) then
    bif (a.text == []) then
     some (((a.args.length : Int) == 3))
    else
     some (false)
   else
    some (false)
  else
   some (false)
def Us : Fsp := ⟨179, [shT .expr], [shF .bool], true, false, fun x => kP x⟩
def wG (rsL10All : af -> Option (Bool)) (a : af) : Option (Bool) :=
 ah (fun (x1 : Int × Int × Str × (List af) × Int) =>
  bif (decide (x1.2.2.2.2 < (x1.2.2.2.1.length : Int))) then
   (idx x1.2.2.2.1 x1.2.2.2.2).bind fun e2 =>
   (rsL10All (aj e2)).bind fun r3 =>
   bif (!r3) then
    some (.inr (false))
   else
    some (.inl (x1.1, x1.2.1, x1.2.2.1, x1.2.2.2.1, w64 (x1.2.2.2.2 + 1)))
  else
   (
    (kP (af.mk x1.1 x1.2.1 x1.2.2.1 x1.2.2.2.1)).bind fun r4 =>
    some (r4)
   ).bind fun r => some (.inr r)
 ) (a.kind, a.n, a.text, a.args, 0)
def mO : Nat -> (af -> Option (Bool))
 | 0 => fun _ => none
 | n + 1 => wG (mO n)
def FX (a : af) : Option (Bool) := (mO (siz a + 1)) a
def Xn : Fsp := ⟨129, [shT .expr], [shF .bool], true, false, fun x => FX x⟩
def Hz (n : Nat) : Fsp := ⟨129, [shT .expr], [shF .bool], true, false, fun x => (mO n) x⟩
def iV (a : af) : Option (Bool) :=
 (Hy (aj a) 40).bind fun r1 =>
 bif (decide (r1 >= 0)) then
  (zu (aj a)).bind fun r2 =>
  bif (decide (r2 <= 8)) then
   (FX (aj a)).bind fun r3 =>
   some (r3)
  else
   some (false)
 else
  some (false)
def H7 : Fsp := ⟨90, [shT .expr], [shF .bool], true, false, fun x => iV x⟩
def oW (a : Str) : Option (af × Int) :=
 (qU a).bind fun r1 =>
 bif (decide (r1.2 >= 0)) then
  some (af.mk 0 0 [] [], r1.2)
 else
 (Hq (GRd.mk r1.1 0 (a.length : Int) (-1))).bind fun r2 =>
 bif (decide (r2.1.bad < 0)) then
  bif (decide (r2.1.i < (r1.1.length : Int))) then
   (fH r2.1).bind fun r3 =>
   bif (decide (r3.1.bad >= 0)) then
    some (af.mk 0 0 [] [], r3.1.bad)
   else
    (iV (aj r2.2)).bind fun r4 =>
    bif (!r4) then
     some (af.mk 0 0 [] [], 0)
    else
     some (aj r2.2, (-1))
  else
   bif (decide (r2.1.bad >= 0)) then
    some (af.mk 0 0 [] [], r2.1.bad)
   else
    (iV (aj r2.2)).bind fun r5 =>
    bif (!r5) then
     some (af.mk 0 0 [] [], 0)
    else
     some (aj r2.2, (-1))
 else
  bif (decide (r2.1.bad >= 0)) then
   some (af.mk 0 0 [] [], r2.1.bad)
  else
   (iV (aj r2.2)).bind fun r6 =>
   bif (!r6) then
    some (af.mk 0 0 [] [], 0)
   else
    some (aj r2.2, (-1))
def Ot : Fsp := ⟨56, [shF .str], [shT .expr, shF .int], false, false, fun x => oW x⟩
def jo (a : Int) : Option (bg) :=
 some (bg.mk 6 a 0 [] [] [] [])
def KH : Fsp := ⟨57, [shF .int], [shT .val], true, false, fun x => jo x⟩
def tC (a : Int) : Option (bg) :=
 some (bg.mk 1 a 0 [] [] [] [])
def GZ : Fsp := ⟨58, [shF .int], [shT .val], true, false, fun x => tC x⟩
def oH (a : Str) : Option ((List Str)) :=
 ah (fun (x1 : Str × (List Str) × Int × Int) =>
  bif (decide ((w64 (x1.2.2.2 + 1)) < (x1.1.length : Int))) then
   (idx x1.1 x1.2.2.2).bind fun c2 =>
   bif ((c2.toNat : Int) == 59) then
    (idx x1.1 (w64 (x1.2.2.2 + 1))).bind fun c3 =>
    bif ((c3.toNat : Int) == 32) then
     (eff.cutL x1.1 (some x1.2.2.1) (some x1.2.2.2)).bind fun r4 =>
     (gd (x1.2.1.length + ([r4] : List Str).length)).bind fun _ =>
     some (.inl (x1.1, x1.2.1 ++ ([r4] : List Str), w64 (x1.2.2.2 + 2), w64 (x1.2.2.2 + 1)))
    else
     some (.inl (x1.1, x1.2.1, x1.2.2.1, w64 (x1.2.2.2 + 1)))
   else
    some (.inl (x1.1, x1.2.1, x1.2.2.1, w64 (x1.2.2.2 + 1)))
  else
   (
    (eff.cutL x1.1 (some x1.2.2.1) none).bind fun r5 =>
    (gd (x1.2.1.length + ([r5] : List Str).length)).bind fun _ =>
    some (x1.2.1 ++ ([r5] : List Str))
   ).bind fun r => some (.inr r)
 ) (a, [], 0, 0)
def QJ : Fsp := ⟨91, [shF .str], [slF .str], true, false, fun x => oH x⟩
def ku (a : Str) (b : Int) : Option ((List Str)) :=
 ah (fun (x1 : Str × Int × (List Str) × Int × Int) =>
  bif (decide (x1.2.2.2.2 <= (x1.1.length : Int))) then
   bif (x1.2.2.2.2 == (x1.1.length : Int)) then
    (eff.cutL x1.1 (some x1.2.2.2.1) (some x1.2.2.2.2)).bind fun r2 =>
    (gd (x1.2.2.1.length + ([r2] : List Str).length)).bind fun _ =>
    some (.inl (x1.1, x1.2.1, x1.2.2.1 ++ ([r2] : List Str), w64 (x1.2.2.2.2 + 1), w64 (x1.2.2.2.2 + 1)))
   else
    (idx x1.1 x1.2.2.2.2).bind fun c3 =>
    bif ((c3.toNat : Int) == x1.2.1) then
     (eff.cutL x1.1 (some x1.2.2.2.1) (some x1.2.2.2.2)).bind fun r4 =>
     (gd (x1.2.2.1.length + ([r4] : List Str).length)).bind fun _ =>
     some (.inl (x1.1, x1.2.1, x1.2.2.1 ++ ([r4] : List Str), w64 (x1.2.2.2.2 + 1), w64 (x1.2.2.2.2 + 1)))
    else
     some (.inl (x1.1, x1.2.1, x1.2.2.1, x1.2.2.2.1, w64 (x1.2.2.2.2 + 1)))
  else
   some (.inr (x1.2.2.1))
 ) (a, b, [], 0, 0)
def Oo : Fsp := ⟨92, [shF .str, shF .u8], [slF .str], true, false, fun x => ku x.1 x.2⟩
def lC (a : Int) : Option (Bool) :=
 (qg a (-1000000000) 1000000000).bind fun r1 =>
 some (r1)
def QB : Fsp := ⟨131, [shF .int], [shF .bool], true, false, fun x => lC x⟩
def xX (a : Str) (b : Int) : Option ((List Int) × Bool) :=
 (ku a 32).bind fun r1 =>
 ah (fun (x2 : Int × (List Int) × (List Str) × Int) =>
  bif (decide (x2.2.2.2 < (x2.2.2.1.length : Int))) then
   (idx x2.2.2.1 x2.2.2.2).bind fun _ =>
   (x2.2.2.1[x2.2.2.2.toNat]?).bind fun e4 =>
   (iG e4).bind fun r5 =>
   bif (!r5.2) then
    some (.inr (x2.2.1, false))
   else
    (lC r5.1).bind fun r6 =>
    bif (!r6) then
     some (.inr (x2.2.1, false))
    else
     (gd (x2.2.1.length + [r5.1].length)).bind fun _ =>
     some (.inl (x2.1, x2.2.1 ++ [r5.1], x2.2.2.1, w64 (x2.2.2.2 + 1)))
  else
   some (.inr (x2.2.1, ((x2.2.1.length : Int) == x2.1)))
 ) (b, [], r1, 0)
def Xk : Fsp := ⟨93, [shF .str, shF .int], [slF .int, shF .bool], true, false, fun x => xX x.1 x.2⟩
def nR (a : List Str) : Option (Bool) :=
 ah (fun (x1 : (List Str) × Int) =>
  bif (decide (x1.2 < (x1.1.length : Int))) then
   (eff.cutL x1.1 none (some x1.2)).bind fun r2 =>
   (idx x1.1 x1.2).bind fun e3 =>
   (zx r2 e3).bind fun r4 =>
   bif r4 then
    some (.inr (false))
   else
    some (.inl (x1.1, w64 (x1.2 + 1)))
  else
   some (.inr (true))
 ) (a, 0)
def Ic : Fsp := ⟨135, [slF .str], [shF .bool], true, false, fun x => nR x⟩
def o5 (a : List Str) : Option (Bool) :=
 ah (fun (x1 : (List Str) × Int) =>
  bif (decide (x1.2 < (x1.1.length : Int))) then
   (idx x1.1 x1.2).bind fun e2 =>
   (bU e2).bind fun r3 =>
   bif (!r3) then
    some (.inr (false))
   else
    some (.inl (x1.1, w64 (x1.2 + 1)))
  else
   (
    (qg (x1.1.length : Int) 1 4).bind fun r4 =>
    bif r4 then
     (nR x1.1).bind fun r5 =>
     some (r5)
    else
     some (false)
   ).bind fun r => some (.inr r)
 ) (a, 0)
def Oz : Fsp := ⟨95, [slF .str], [shF .bool], true, false, fun x => o5 x⟩
def MJ (a : gy) (b : gy) : Option (Bool) :=
 bif (decide (a.cell < b.cell)) then
  some (true)
 else
  bif (a.cell == b.cell) then
   some ((decide (a.row < b.row)))
  else
   some (false)
def QC : Fsp := ⟨208, [shT .origin, shT .origin], [shF .bool], true, false, fun x => MJ x.1 x.2⟩
def nN (a : List gy) : Option (Bool) :=
 ah (fun (x1 : (List gy) × Int) =>
  bif (decide (x1.2 < (x1.1.length : Int))) then
   (idx x1.1 x1.2).bind fun e2 =>
   bif (decide (e2.cell < 0)) then
    some (.inr (false))
   else
   (idx x1.1 x1.2).bind fun e3 =>
   bif (decide (e3.row < 0)) then
    some (.inr (false))
   else
   bif (decide (x1.2 > 0)) then
    (idx x1.1 (w64 (x1.2 - 1))).bind fun e4 =>
    (idx x1.1 x1.2).bind fun e5 =>
    (MJ e4 e5).bind fun r6 =>
    bif (!r6) then
     some (.inr (false))
    else
     some (.inl (x1.1, w64 (x1.2 + 1)))
   else
    some (.inl (x1.1, w64 (x1.2 + 1)))
  else
   some (.inr (true))
 ) (a, 0)
def G7 : Fsp := ⟨183, [slF .origin], [shF .bool], true, false, fun x => nN x⟩
def Ba (a : bg) : Option (Bool) :=
 (o5 a.columns).bind fun r1 =>
 bif (!r1) then
  some (false)
 else
 bif (decide ((a.rows.length : Int) > 12)) then
  some (false)
 else
 ah (fun (x2 : Int × Int × Int × Str × (List bg) × (List Str) × (List bQ) × Int) =>
  bif (decide (x2.2.2.2.2.2.2.2 < (x2.2.2.2.2.2.2.1.length : Int))) then
   (idx x2.2.2.2.2.2.2.1 x2.2.2.2.2.2.2.2).bind fun e3 =>
   bif ((e3.cells.length : Int) != (x2.2.2.2.2.2.1.length : Int)) then
    some (.inr (false))
   else
   (nN e3.orig).bind fun r4 =>
   bif (!r4) then
    some (.inr (false))
   else
   ah (fun (x5 : Int × Int × Int × Str × (List bg) × (List Str) × (List bQ) × Int × (List Int) × (List gy) × Int) =>
    bif (decide (x5.2.2.2.2.2.2.2.2.2.2 < (x5.2.2.2.2.2.2.2.2.1.length : Int))) then
     (idx x5.2.2.2.2.2.2.2.2.1 x5.2.2.2.2.2.2.2.2.2.2).bind fun e6 =>
     (lC e6).bind fun r7 =>
     bif (!r7) then
      (
       some (.inr (false))
      ).bind fun r => some (.inr r)
     else
      some (.inl (x5.1, x5.2.1, x5.2.2.1, x5.2.2.2.1, x5.2.2.2.2.1, x5.2.2.2.2.2.1, x5.2.2.2.2.2.2.1, x5.2.2.2.2.2.2.2.1, x5.2.2.2.2.2.2.2.2.1, x5.2.2.2.2.2.2.2.2.2.1, w64 (x5.2.2.2.2.2.2.2.2.2.2 + 1)))
    else
     some (.inr (.inl (x5.1, x5.2.1, x5.2.2.1, x5.2.2.2.1, x5.2.2.2.2.1, x5.2.2.2.2.2.1, x5.2.2.2.2.2.2.1, w64 (x5.2.2.2.2.2.2.2.1 + 1))))
   ) (x2.1, x2.2.1, x2.2.2.1, x2.2.2.2.1, x2.2.2.2.2.1, x2.2.2.2.2.2.1, x2.2.2.2.2.2.2.1, x2.2.2.2.2.2.2.2, e3.cells, e3.orig, 0)
  else
   some (.inr (true))
 ) (a.kind, a.n, a.step, a.text, a.list, a.columns, a.rows, 0)
def Uf : Fsp := ⟨134, [shT .val], [shF .bool], true, false, fun x => Ba x⟩
def iH (a : bg) : Option (Bool) :=
 bif (!(a.text == [])) then
  some (false)
 else
  bif (a.step != 0) then
   some (false)
  else
   bif (a.n == 0) then
    (Ba (bg.mk 5 a.n a.step a.text [] a.columns a.rows)).bind fun r1 =>
    some (r1)
   else
    some (false)
def lT (a : bg) : Option (Bool) := bif (a.kind == 5) && a.list.isEmpty then iH a else none
def fF : Fsp := ⟨94, [shT .val], [shF .bool], true, false, fun x => lT x⟩
def oZ (a : Str) : Option (bg × Bool) :=
 (oH a).bind fun r1 =>
 (idx r1 0).bind fun _ =>
 (r1[0]?).bind fun e3 =>
 (ku e3 32).bind fun r4 =>
 ah (fun (x5 : Int × Int × Int × Str × (List bg) × (List Str) × (List bQ) × (List Str) × Int × Int × Int × Str × (List bg) × (List Str) × (List bQ) × Int) =>
  bif (decide (x5.2.2.2.2.2.2.2.2.2.2.2.2.2.2.2 < (x5.2.2.2.2.2.2.2.1.length : Int))) then
   (idx x5.2.2.2.2.2.2.2.1 x5.2.2.2.2.2.2.2.2.2.2.2.2.2.2.2).bind fun _ =>
   (x5.2.2.2.2.2.2.2.1[x5.2.2.2.2.2.2.2.2.2.2.2.2.2.2.2.toNat]?).bind fun e7 =>
   (xX e7 (x5.2.2.2.2.2.2.2.2.2.2.2.2.2.1.length : Int)).bind fun r8 =>
   bif (!r8.2) then
    some (.inr (bg.mk 0 0 0 [] [] [] [], false))
   else
    (gd (x5.2.2.2.2.2.2.2.2.2.2.2.2.2.2.1.length + ([bQ.mk r8.1 []]).length)).bind fun _ =>
    some (.inl (x5.1, x5.2.1, x5.2.2.1, x5.2.2.2.1, x5.2.2.2.2.1, x5.2.2.2.2.2.1, x5.2.2.2.2.2.2.1, x5.2.2.2.2.2.2.2.1, x5.2.2.2.2.2.2.2.2.1, x5.2.2.2.2.2.2.2.2.2.1, x5.2.2.2.2.2.2.2.2.2.2.1, x5.2.2.2.2.2.2.2.2.2.2.2.1, x5.2.2.2.2.2.2.2.2.2.2.2.2.1, x5.2.2.2.2.2.2.2.2.2.2.2.2.2.1, x5.2.2.2.2.2.2.2.2.2.2.2.2.2.2.1 ++ ([bQ.mk r8.1 []]), w64 (x5.2.2.2.2.2.2.2.2.2.2.2.2.2.2.2 + 1)))
  else
   (
    (lT (bg.mk x5.2.2.2.2.2.2.2.2.1 x5.2.2.2.2.2.2.2.2.2.1 x5.2.2.2.2.2.2.2.2.2.2.1 x5.2.2.2.2.2.2.2.2.2.2.2.1 x5.2.2.2.2.2.2.2.2.2.2.2.2.1 x5.2.2.2.2.2.2.2.2.2.2.2.2.2.1 x5.2.2.2.2.2.2.2.2.2.2.2.2.2.2.1)).bind fun r9 =>
    bif (!r9) then
     some (bg.mk 0 0 0 [] [] [] [], false)
    else
     some (bg.mk x5.2.2.2.2.2.2.2.2.1 x5.2.2.2.2.2.2.2.2.2.1 x5.2.2.2.2.2.2.2.2.2.2.1 x5.2.2.2.2.2.2.2.2.2.2.2.1 x5.2.2.2.2.2.2.2.2.2.2.2.2.1 x5.2.2.2.2.2.2.2.2.2.2.2.2.2.1 x5.2.2.2.2.2.2.2.2.2.2.2.2.2.2.1, true)
   ).bind fun r => some (.inr r)
 ) (0, 0, 0, [], [], [], [], r1, 5, 0, 0, [], [], r4, [], 1)
def Ou : Fsp := ⟨59, [shF .str], [shT .val, shF .bool], true, false, fun x => oZ x⟩
def tX (a : Str) : Option (Int) :=
 (oH a).bind fun r1 =>
 (idx r1 0).bind fun _ =>
 (r1[0]?).bind fun e3 =>
 (ku e3 32).bind fun r4 =>
 (o5 r4).bind fun r5 =>
 bif (!r5) then
  some (0)
 else
 ah (fun (x6 : (List Str) × (List Str) × Int) =>
  bif (decide (x6.2.2 < (x6.1.length : Int))) then
   (idx x6.1 x6.2.2).bind fun _ =>
   (x6.1[x6.2.2.toNat]?).bind fun e8 =>
   (xX e8 (x6.2.1.length : Int)).bind fun r9 =>
   bif (!r9.2) then
    some (.inr (x6.2.2))
   else
    bif (decide (x6.2.2 > 12)) then
     some (.inr (x6.2.2))
    else
     some (.inl (x6.1, x6.2.1, w64 (x6.2.2 + 1)))
  else
   some (.inr ((-1)))
 ) (r1, r4, 1)
def OH : Fsp := ⟨60, [shF .str], [shF .int], true, false, fun x => tX x⟩
def Ox (a : bQ) : Option (bQ) :=
 (gd (0 + a.cells.length)).bind fun _ =>
 (gd (0 + a.orig.length)).bind fun _ =>
 some (bQ.mk ([] ++ a.cells) ([] ++ a.orig))
def YO : Fsp := ⟨136, [shT .row], [shT .row], true, false, fun x => Ox x⟩
def G6 (rsL3Copy : bg -> Option (bg)) (a : bg) : Option (bg) :=
 (gd (0 + a.columns.length)).bind fun _ =>
 ah (fun (x1 : Int × Int × Int × Str × (List bg) × (List Str) × (List bQ) × Int × Int × Int × Str × (List bg) × (List Str) × (List bQ) × Int × Int × Int × Str × (List bg) × (List Str) × (List bQ) × Int) =>
  bif (decide (x1.2.2.2.2.2.2.2.2.2.2.2.2.2.2.2.2.2.2.2.2.2 < (x1.2.2.2.2.1.length : Int))) then
   (idx x1.2.2.2.2.1 x1.2.2.2.2.2.2.2.2.2.2.2.2.2.2.2.2.2.2.2.2.2).bind fun e2 =>
   (rsL3Copy (gG e2)).bind fun r3 =>
   (gd (x1.2.2.2.2.2.2.2.2.2.2.2.2.2.2.2.2.2.2.1.length + [gG r3].length)).bind fun _ =>
   some (.inl (x1.1, x1.2.1, x1.2.2.1, x1.2.2.2.1, x1.2.2.2.2.1, x1.2.2.2.2.2.1, x1.2.2.2.2.2.2.1, x1.2.2.2.2.2.2.2.1, x1.2.2.2.2.2.2.2.2.1, x1.2.2.2.2.2.2.2.2.2.1, x1.2.2.2.2.2.2.2.2.2.2.1, x1.2.2.2.2.2.2.2.2.2.2.2.1, x1.2.2.2.2.2.2.2.2.2.2.2.2.1, x1.2.2.2.2.2.2.2.2.2.2.2.2.2.1, x1.2.2.2.2.2.2.2.2.2.2.2.2.2.2.1, x1.2.2.2.2.2.2.2.2.2.2.2.2.2.2.2.1, x1.2.2.2.2.2.2.2.2.2.2.2.2.2.2.2.2.1, x1.2.2.2.2.2.2.2.2.2.2.2.2.2.2.2.2.2.1, x1.2.2.2.2.2.2.2.2.2.2.2.2.2.2.2.2.2.2.1 ++ [gG r3], x1.2.2.2.2.2.2.2.2.2.2.2.2.2.2.2.2.2.2.2.1, x1.2.2.2.2.2.2.2.2.2.2.2.2.2.2.2.2.2.2.2.2.1, w64 (x1.2.2.2.2.2.2.2.2.2.2.2.2.2.2.2.2.2.2.2.2.2 + 1)))
  else
   (
    ah (fun (x4 : Int × Int × Int × Str × (List bg) × (List Str) × (List bQ) × Int × Int × Int × Str × (List bg) × (List Str) × (List bQ) × Int × Int × Int × Str × (List bg) × (List Str) × (List bQ) × Int) =>
     bif (decide (x4.2.2.2.2.2.2.2.2.2.2.2.2.2.2.2.2.2.2.2.2.2 < (x4.2.2.2.2.2.2.1.length : Int))) then
      (idx x4.2.2.2.2.2.2.1 x4.2.2.2.2.2.2.2.2.2.2.2.2.2.2.2.2.2.2.2.2.2).bind fun e5 =>
      (Ox e5).bind fun r6 =>
      (gd (x4.2.2.2.2.2.2.2.2.2.2.2.2.2.2.2.2.2.2.2.2.1.length + [r6].length)).bind fun _ =>
      some (.inl (x4.1, x4.2.1, x4.2.2.1, x4.2.2.2.1, x4.2.2.2.2.1, x4.2.2.2.2.2.1, x4.2.2.2.2.2.2.1, x4.2.2.2.2.2.2.2.1, x4.2.2.2.2.2.2.2.2.1, x4.2.2.2.2.2.2.2.2.2.1, x4.2.2.2.2.2.2.2.2.2.2.1, x4.2.2.2.2.2.2.2.2.2.2.2.1, x4.2.2.2.2.2.2.2.2.2.2.2.2.1, x4.2.2.2.2.2.2.2.2.2.2.2.2.2.1, x4.2.2.2.2.2.2.2.2.2.2.2.2.2.2.1, x4.2.2.2.2.2.2.2.2.2.2.2.2.2.2.2.1, x4.2.2.2.2.2.2.2.2.2.2.2.2.2.2.2.2.1, x4.2.2.2.2.2.2.2.2.2.2.2.2.2.2.2.2.2.1, x4.2.2.2.2.2.2.2.2.2.2.2.2.2.2.2.2.2.2.1, x4.2.2.2.2.2.2.2.2.2.2.2.2.2.2.2.2.2.2.2.1, x4.2.2.2.2.2.2.2.2.2.2.2.2.2.2.2.2.2.2.2.2.1 ++ [r6], w64 (x4.2.2.2.2.2.2.2.2.2.2.2.2.2.2.2.2.2.2.2.2.2 + 1)))
     else
      some (.inr (bg.mk x4.2.2.2.2.2.2.2.2.2.2.2.2.2.2.1 x4.2.2.2.2.2.2.2.2.2.2.2.2.2.2.2.1 x4.2.2.2.2.2.2.2.2.2.2.2.2.2.2.2.2.1 x4.2.2.2.2.2.2.2.2.2.2.2.2.2.2.2.2.2.1 x4.2.2.2.2.2.2.2.2.2.2.2.2.2.2.2.2.2.2.1 x4.2.2.2.2.2.2.2.2.2.2.2.2.2.2.2.2.2.2.2.1 x4.2.2.2.2.2.2.2.2.2.2.2.2.2.2.2.2.2.2.2.2.1))
    ) (x1.1, x1.2.1, x1.2.2.1, x1.2.2.2.1, x1.2.2.2.2.1, x1.2.2.2.2.2.1, x1.2.2.2.2.2.2.1, x1.2.2.2.2.2.2.2.1, x1.2.2.2.2.2.2.2.2.1, x1.2.2.2.2.2.2.2.2.2.1, x1.2.2.2.2.2.2.2.2.2.2.1, x1.2.2.2.2.2.2.2.2.2.2.2.1, x1.2.2.2.2.2.2.2.2.2.2.2.2.1, x1.2.2.2.2.2.2.2.2.2.2.2.2.2.1, x1.2.2.2.2.2.2.2.2.2.2.2.2.2.2.1, x1.2.2.2.2.2.2.2.2.2.2.2.2.2.2.2.1, x1.2.2.2.2.2.2.2.2.2.2.2.2.2.2.2.2.1, x1.2.2.2.2.2.2.2.2.2.2.2.2.2.2.2.2.2.1, x1.2.2.2.2.2.2.2.2.2.2.2.2.2.2.2.2.2.2.1, x1.2.2.2.2.2.2.2.2.2.2.2.2.2.2.2.2.2.2.2.1, x1.2.2.2.2.2.2.2.2.2.2.2.2.2.2.2.2.2.2.2.2.1, 0)
   ).bind fun r => some (.inr r)
 ) (a.kind, a.n, a.step, a.text, a.list, a.columns, a.rows, 0, 0, 0, [], [], [], [], a.kind, a.n, a.step, a.text, [], [] ++ a.columns, [], 0)
def Bc : Nat -> (bg -> Option (bg))
 | 0 => fun _ => none
 | n + 1 => G6 (Bc n)
def Oy (a : bg) : Option (bg) := (Bc (siz a + 1)) a
def Xg : Fsp := ⟨96, [shT .val], [shT .val], true, false, fun x => Oy x⟩
def G5 (n : Nat) : Fsp := ⟨96, [shT .val], [shT .val], true, false, fun x => (Bc n) x⟩
def nM (a : Int) (b : bg) : Option (bg) :=
 bif (b.kind != 5) then
  (jo 4).bind fun r1 =>
  some (gG r1)
 else
 (lT (gG b)).bind fun r2 =>
 bif (!r2) then
  (jo 4).bind fun r3 =>
  some (gG r3)
 else
 bif (decide (a < 0)) then
  (jo 4).bind fun r4 =>
  some (gG r4)
 else
  (Oy (gG b)).bind fun r5 =>
  ah (fun (x6 : Int × Int × Int × Int × Str × (List bg) × (List Str) × (List bQ) × Int × Int × Int × Str × (List bg) × (List Str) × (List bQ) × Int) =>
   bif (decide (x6.2.2.2.2.2.2.2.2.2.2.2.2.2.2.2 < (x6.2.2.2.2.2.2.2.2.2.2.2.2.2.2.1.length : Int))) then
    (idx x6.2.2.2.2.2.2.2.2.2.2.2.2.2.2.1 x6.2.2.2.2.2.2.2.2.2.2.2.2.2.2.2).bind fun _ =>
    (x6.2.2.2.2.2.2.2.2.2.2.2.2.2.2.1[x6.2.2.2.2.2.2.2.2.2.2.2.2.2.2.2.toNat]?).bind fun e8 =>
    some (.inl (x6.1, x6.2.1, x6.2.2.1, x6.2.2.2.1, x6.2.2.2.2.1, x6.2.2.2.2.2.1, x6.2.2.2.2.2.2.1, x6.2.2.2.2.2.2.2.1, x6.2.2.2.2.2.2.2.2.1, x6.2.2.2.2.2.2.2.2.2.1, x6.2.2.2.2.2.2.2.2.2.2.1, x6.2.2.2.2.2.2.2.2.2.2.2.1, x6.2.2.2.2.2.2.2.2.2.2.2.2.1, x6.2.2.2.2.2.2.2.2.2.2.2.2.2.1, x6.2.2.2.2.2.2.2.2.2.2.2.2.2.2.1.set x6.2.2.2.2.2.2.2.2.2.2.2.2.2.2.2.toNat (bQ.mk e8.cells [gy.mk x6.1 x6.2.2.2.2.2.2.2.2.2.2.2.2.2.2.2]), w64 (x6.2.2.2.2.2.2.2.2.2.2.2.2.2.2.2 + 1)))
   else
    some (.inr (bg.mk x6.2.2.2.2.2.2.2.2.1 x6.2.2.2.2.2.2.2.2.2.1 x6.2.2.2.2.2.2.2.2.2.2.1 x6.2.2.2.2.2.2.2.2.2.2.2.1 x6.2.2.2.2.2.2.2.2.2.2.2.2.1 x6.2.2.2.2.2.2.2.2.2.2.2.2.2.1 x6.2.2.2.2.2.2.2.2.2.2.2.2.2.2.1))
  ) (a, 0, 0, 0, [], [], [], [], r5.kind, r5.n, r5.step, r5.text, r5.list, r5.columns, r5.rows, 0)
def GX : Fsp := ⟨61, [shF .int, shT .val], [shT .val], true, false, fun x => nM x.1 x.2⟩
def jE (a : aV) : Option (aF) :=
 (iW a).bind fun r1 =>
 bif (!r1) then
  some (aF.mk 0 [] (af.mk 0 0 [] []) (bg.mk 0 0 0 [] [] [] []) 0)
 else
 bif (a.kind == 2) then
  (oW a.code).bind fun r2 =>
  bif (decide (r2.2 >= 0)) then
   (jo 8).bind fun r3 =>
   some (aF.mk 4 a.name (af.mk 0 0 [] []) (gG r3) r2.2)
  else
   some (aF.mk 2 a.name (aj r2.1) (bg.mk 0 0 0 [] [] [] []) 0)
 else
 bif (a.kind == 3) then
  (tC a.n).bind fun r4 =>
  some (aF.mk 3 a.name (af.mk 0 0 [] []) (gG r4) 0)
 else
 bif (a.kind == 4) then
  (oZ a.code).bind fun r5 =>
  bif (!r5.2) then
   (jo 8).bind fun r6 =>
   (tX a.code).bind fun r7 =>
   some (aF.mk 4 a.name (af.mk 0 0 [] []) (gG r6) r7)
  else
   (nM a.id (gG r5.1)).bind fun r8 =>
   some (aF.mk 3 a.name (af.mk 0 0 [] []) (gG r8) 0)
 else
  some (aF.mk 1 [] (af.mk 0 0 [] []) (bg.mk 0 0 0 [] [] [] []) 0)
def Ib : Fsp := ⟨35, [shT .cell], [shT .part], false, false, fun x => jE x⟩
def mQ (a : aW) : Option ((List aF)) :=
 (iI a).bind fun r1 =>
 bif (!r1) then
  some ([])
 else
  ah (fun (x2 : (List aV) × (List aF) × Int) =>
   bif (decide (x2.2.2 < (x2.1.length : Int))) then
    (idx x2.1 x2.2.2).bind fun e3 =>
    (jE e3).bind fun r4 =>
    (gd (x2.2.1.length + [kR r4].length)).bind fun _ =>
    some (.inl (x2.1, x2.2.1 ++ [kR r4], w64 (x2.2.2 + 1)))
   else
    some (.inr (x2.2.1))
  ) (a.cells, [], 0)
def KJ : Fsp := ⟨17, [shT .notebook], [slF .part], false, true, fun x => mQ x⟩
def dX (a : List Int) (b : Int) : Option (Bool) :=
 ah (fun (x1 : (List Int) × Int × Int) =>
  bif (decide (x1.2.2 < (x1.1.length : Int))) then
   (idx x1.1 x1.2.2).bind fun e2 =>
   bif (e2 == x1.2.1) then
    some (.inr (true))
   else
    some (.inl (x1.1, x1.2.1, w64 (x1.2.2 + 1)))
  else
   some (.inr (false))
 ) (a, b, 0)
def QI : Fsp := ⟨36, [slF .int, shF .int], [shF .bool], true, false, fun x => dX x.1 x.2⟩
def tJ (a : List Int) : Option ((List Int)) :=
 ah (fun (x1 : (List Int) × (List Int) × Int) =>
  bif (decide (x1.2.2 < (x1.1.length : Int))) then
   (idx x1.1 x1.2.2).bind fun e2 =>
   (dX x1.2.1 e2).bind fun r3 =>
   bif r3 then
    some (.inl (x1.1, x1.2.1, w64 (x1.2.2 + 1)))
   else
   ah (fun (x4 : (List Int) × (List Int) × Int × Int) =>
    bif (decide (x4.2.2.2 < (x4.2.1.length : Int))) then
     (idx x4.2.1 x4.2.2.2).bind fun _ =>
     (x4.2.1[x4.2.2.2.toNat]?).bind fun e6 =>
     (idx x4.1 x4.2.2.1).bind fun e7 =>
     bif (decide (e6 < e7)) then
      some (.inl (x4.1, x4.2.1, x4.2.2.1, w64 (x4.2.2.2 + 1)))
     else
      (
       (eff.cutL x4.2.1 none (some x4.2.2.2)).bind fun r8 =>
       (gd (0 + r8.length)).bind fun _ =>
       (idx x4.1 x4.2.2.1).bind fun e9 =>
       (gd (([] ++ r8).length + [e9].length)).bind fun _ =>
       (eff.cutL x4.2.1 (some x4.2.2.2) none).bind fun r10 =>
       (gd ((([] ++ r8) ++ [e9]).length + r10.length)).bind fun _ =>
       some (.inl (x4.1, (([] ++ r8) ++ [e9]) ++ r10, w64 (x4.2.2.1 + 1)))
      ).bind fun r => some (.inr r)
    else
     (
      (eff.cutL x4.2.1 none (some x4.2.2.2)).bind fun r11 =>
      (gd (0 + r11.length)).bind fun _ =>
      (idx x4.1 x4.2.2.1).bind fun e12 =>
      (gd (([] ++ r11).length + [e12].length)).bind fun _ =>
      (eff.cutL x4.2.1 (some x4.2.2.2) none).bind fun r13 =>
      (gd ((([] ++ r11) ++ [e12]).length + r13.length)).bind fun _ =>
      some (.inl (x4.1, (([] ++ r11) ++ [e12]) ++ r13, w64 (x4.2.2.1 + 1)))
     ).bind fun r => some (.inr r)
   ) (x1.1, x1.2.1, x1.2.2, 0)
  else
   some (.inr (x1.2.1))
 ) (a, [], 0)
def Xh : Fsp := ⟨98, [slF .int], [slF .int], true, false, fun x => tJ x⟩
def lq (a : List Str) : Option ((List Str)) :=
 ah (fun (x1 : (List Str) × (List Str) × Int) =>
  bif (decide (x1.2.2 < (x1.1.length : Int))) then
   ah (fun (x2 : (List Str) × (List Str) × Int × Int) =>
    bif (decide (x2.2.2.2 < (x2.2.1.length : Int))) then
     (idx x2.2.1 x2.2.2.2).bind fun _ =>
     (x2.2.1[x2.2.2.2.toNat]?).bind fun e4 =>
     (idx x2.1 x2.2.2.1).bind fun e5 =>
     bif (Op.bytesLess e4 e5) then
      some (.inl (x2.1, x2.2.1, x2.2.2.1, w64 (x2.2.2.2 + 1)))
     else
     (
      bif (decide (x2.2.2.2 < (x2.2.1.length : Int))) then
       (idx x2.2.1 x2.2.2.2).bind fun _ =>
       (x2.2.1[x2.2.2.2.toNat]?).bind fun e7 =>
       (idx x2.1 x2.2.2.1).bind fun e8 =>
       bif (e7 == e8) then
        some (.inl (x2.1, x2.2.1, w64 (x2.2.2.1 + 1)))
       else
        (cutAt x2.2.1 x2.2.2.2).bind fun m9 =>
        (gd (0 + (x2.2.1.drop m9).length)).bind fun _ =>
        (cutAt x2.2.1 x2.2.2.2).bind fun m10 =>
        (idx x2.1 x2.2.2.1).bind fun e11 =>
        (gd ((x2.2.1.take m10).length + ([e11] : List Str).length)).bind fun _ =>
        (gd (((x2.2.1.take m10) ++ ([e11] : List Str)).length + ([] ++ (x2.2.1.drop m9)).length)).bind fun _ =>
        some (.inl (x2.1, ((x2.2.1.take m10) ++ ([e11] : List Str)) ++ ([] ++ (x2.2.1.drop m9)), w64 (x2.2.2.1 + 1)))
      else
       (cutAt x2.2.1 x2.2.2.2).bind fun m12 =>
       (gd (0 + (x2.2.1.drop m12).length)).bind fun _ =>
       (cutAt x2.2.1 x2.2.2.2).bind fun m13 =>
       (idx x2.1 x2.2.2.1).bind fun e14 =>
       (gd ((x2.2.1.take m13).length + ([e14] : List Str).length)).bind fun _ =>
       (gd (((x2.2.1.take m13) ++ ([e14] : List Str)).length + ([] ++ (x2.2.1.drop m12)).length)).bind fun _ =>
       some (.inl (x2.1, ((x2.2.1.take m13) ++ ([e14] : List Str)) ++ ([] ++ (x2.2.1.drop m12)), w64 (x2.2.2.1 + 1)))
     ).bind fun r => some (.inr r)
    else
    (
     bif (decide (x2.2.2.2 < (x2.2.1.length : Int))) then
      (idx x2.2.1 x2.2.2.2).bind fun _ =>
      (x2.2.1[x2.2.2.2.toNat]?).bind fun e16 =>
      (idx x2.1 x2.2.2.1).bind fun e17 =>
      bif (e16 == e17) then
       some (.inl (x2.1, x2.2.1, w64 (x2.2.2.1 + 1)))
      else
       (cutAt x2.2.1 x2.2.2.2).bind fun m18 =>
       (gd (0 + (x2.2.1.drop m18).length)).bind fun _ =>
       (cutAt x2.2.1 x2.2.2.2).bind fun m19 =>
       (idx x2.1 x2.2.2.1).bind fun e20 =>
       (gd ((x2.2.1.take m19).length + ([e20] : List Str).length)).bind fun _ =>
       (gd (((x2.2.1.take m19) ++ ([e20] : List Str)).length + ([] ++ (x2.2.1.drop m18)).length)).bind fun _ =>
       some (.inl (x2.1, ((x2.2.1.take m19) ++ ([e20] : List Str)) ++ ([] ++ (x2.2.1.drop m18)), w64 (x2.2.2.1 + 1)))
     else
      (cutAt x2.2.1 x2.2.2.2).bind fun m21 =>
      (gd (0 + (x2.2.1.drop m21).length)).bind fun _ =>
      (cutAt x2.2.1 x2.2.2.2).bind fun m22 =>
      (idx x2.1 x2.2.2.1).bind fun e23 =>
      (gd ((x2.2.1.take m22).length + ([e23] : List Str).length)).bind fun _ =>
      (gd (((x2.2.1.take m22) ++ ([e23] : List Str)).length + ([] ++ (x2.2.1.drop m21)).length)).bind fun _ =>
      some (.inl (x2.1, ((x2.2.1.take m22) ++ ([e23] : List Str)) ++ ([] ++ (x2.2.1.drop m21)), w64 (x2.2.2.1 + 1)))
    ).bind fun r => some (.inr r)
   ) (x1.1, x1.2.1, x1.2.2, 0)
  else
   some (.inr (x1.2.1))
 ) (a, [], 0)
def Oq : Fsp := ⟨67, [slF .str], [slF .str], true, false, fun x => lq x⟩
def Ew (rsL13Free : af -> (List Str) -> Option ((List Str))) : ((List Str) × Int × Int × Str × (List af) × (List Str) × Int) -> Option (((List Str) × Int × Int × Str × (List af) × (List Str) × Int) ⊕ ((List Str))) :=
(fun (x2 : (List Str) × Int × Int × Str × (List af) × (List Str) × Int) =>
   bif (decide (x2.2.2.2.2.2.2 < (x2.2.2.2.2.1.length : Int))) then
    bif (x2.2.1 == 7) then
     bif (decide (x2.2.2.2.2.2.2 > 0)) then
      (gd (0 + x2.1.length)).bind fun _ =>
      (gd (([] ++ x2.1).length + ([x2.2.2.2.1] : List Str).length)).bind fun _ =>
      (idx x2.2.2.2.2.1 x2.2.2.2.2.2.2).bind fun e3 =>
      (rsL13Free (aj e3) (([] ++ x2.1) ++ ([x2.2.2.2.1] : List Str))).bind fun r4 =>
      (gd (x2.2.2.2.2.2.1.length + r4.length)).bind fun _ =>
      some (.inl (x2.1, x2.2.1, x2.2.2.1, x2.2.2.2.1, x2.2.2.2.2.1, x2.2.2.2.2.2.1 ++ r4, w64 (x2.2.2.2.2.2.2 + 1)))
     else
      (idx x2.2.2.2.2.1 x2.2.2.2.2.2.2).bind fun e5 =>
      (rsL13Free (aj e5) x2.1).bind fun r6 =>
      (gd (x2.2.2.2.2.2.1.length + r6.length)).bind fun _ =>
      some (.inl (x2.1, x2.2.1, x2.2.2.1, x2.2.2.2.1, x2.2.2.2.2.1, x2.2.2.2.2.2.1 ++ r6, w64 (x2.2.2.2.2.2.2 + 1)))
    else
    bif (x2.2.1 == 9) then
     bif (decide (x2.2.2.2.2.2.2 > 0)) then
      (gd (0 + x2.1.length)).bind fun _ =>
      (gd (([] ++ x2.1).length + ([x2.2.2.2.1] : List Str).length)).bind fun _ =>
      (idx x2.2.2.2.2.1 x2.2.2.2.2.2.2).bind fun e7 =>
      (rsL13Free (aj e7) (([] ++ x2.1) ++ ([x2.2.2.2.1] : List Str))).bind fun r8 =>
      (gd (x2.2.2.2.2.2.1.length + r8.length)).bind fun _ =>
      some (.inl (x2.1, x2.2.1, x2.2.2.1, x2.2.2.2.1, x2.2.2.2.2.1, x2.2.2.2.2.2.1 ++ r8, w64 (x2.2.2.2.2.2.2 + 1)))
     else
      (idx x2.2.2.2.2.1 x2.2.2.2.2.2.2).bind fun e9 =>
      (rsL13Free (aj e9) x2.1).bind fun r10 =>
      (gd (x2.2.2.2.2.2.1.length + r10.length)).bind fun _ =>
      some (.inl (x2.1, x2.2.1, x2.2.2.1, x2.2.2.2.1, x2.2.2.2.2.1, x2.2.2.2.2.2.1 ++ r10, w64 (x2.2.2.2.2.2.2 + 1)))
    else
     (idx x2.2.2.2.2.1 x2.2.2.2.2.2.2).bind fun e11 =>
     (rsL13Free (aj e11) x2.1).bind fun r12 =>
     (gd (x2.2.2.2.2.2.1.length + r12.length)).bind fun _ =>
     some (.inl (x2.1, x2.2.1, x2.2.2.1, x2.2.2.2.1, x2.2.2.2.2.1, x2.2.2.2.2.2.1 ++ r12, w64 (x2.2.2.2.2.2.2 + 1)))
   else
    some (.inr (x2.2.2.2.2.2.1))
 )
def Dl (rsL13Free : af -> (List Str) -> Option ((List Str))) (a : af) (b : List Str) : Option ((List Str)) :=
 bif (a.kind == 3) then
  (zx b a.text).bind fun r1 =>
  bif (!r1) then
   (gd (0 + ([a.text] : List Str).length)).bind fun _ =>
   some ([] ++ ([a.text] : List Str))
  else
  ah (Ew rsL13Free) (b, a.kind, a.n, a.text, a.args, [], 0)
 else
 ah (Ew rsL13Free) (b, a.kind, a.n, a.text, a.args, [], 0)
def lD : Nat -> (af -> (List Str) -> Option ((List Str)))
 | 0 => fun _ _ => none
 | n + 1 => Dl (lD n)
def Hf (a : af) (b : List Str) : Option ((List Str)) := (lD (siz a + siz b + 1)) a b
def Ui : Fsp := ⟨200, [shT .expr, slF .str], [slF .str], true, false, fun x => Hf x.1 x.2⟩
def Eu (n : Nat) : Fsp := ⟨200, [shT .expr, slF .str], [slF .str], true, false, fun x => (lD n) x.1 x.2⟩
def tV (a : af) : Option ((List Str)) :=
 (Hf (aj a) []).bind fun r1 =>
 (lq r1).bind fun r2 =>
 some (r2)
def OE : Fsp := ⟨166, [shT .expr], [slF .str], true, false, fun x => tV x⟩
def xO (a : aF) : Option ((List Str)) :=
 bif (a.kind != 2) then
  some ([])
 else
  (tV (aj a.expr)).bind fun r1 =>
  some (r1)
def W9 : Fsp := ⟨119, [shT .part], [slF .str], true, false, fun x => xO x⟩
def qZ (a : List aF) (b : Str) : Option ((List Int)) :=
 ah (fun (x1 : (List aF) × Str × (List Int) × Int) =>
  bif (decide (x1.2.2.2 < (x1.1.length : Int))) then
   (idx x1.1 x1.2.2.2).bind fun e2 =>
   bif (e2.kind != 1) then
    (idx x1.1 x1.2.2.2).bind fun e3 =>
    bif (e3.name == x1.2.1) then
     (gd (x1.2.2.1.length + [x1.2.2.2].length)).bind fun _ =>
     some (.inl (x1.1, x1.2.1, x1.2.2.1 ++ [x1.2.2.2], w64 (x1.2.2.2 + 1)))
    else
     some (.inl (x1.1, x1.2.1, x1.2.2.1, w64 (x1.2.2.2 + 1)))
   else
    some (.inl (x1.1, x1.2.1, x1.2.2.1, w64 (x1.2.2.2 + 1)))
  else
   some (.inr (x1.2.2.1))
 ) (a, b, [], 0)
def QN : Fsp := ⟨66, [slF .part, shF .str], [slF .int], true, false, fun x => qZ x.1 x.2⟩
def wu (a : List aF) (b : Str) : Option (Int) :=
 (qZ a b).bind fun r1 =>
 bif ((r1.length : Int) == 0) then
  some ((-1))
 else
  bif ((r1.length : Int) == 1) then
   (idx r1 0).bind fun _ =>
   (r1[0]?).bind fun e3 =>
   some (e3)
  else
   some ((-2))
def TY : Fsp := ⟨120, [slF .part, shF .str], [shF .int], true, false, fun x => wu x.1 x.2⟩
def kG (a : List aF) (b : Int) : Option ((List Int)) :=
 (qg b 0 (w64 ((a.length : Int) - 1))).bind fun r1 =>
 bif (!r1) then
  some ([])
 else
 (idx a b).bind fun e2 =>
 (xO (kR e2)).bind fun r3 =>
 ah (fun (x4 : (List aF) × (List Int) × (List Str) × Int) =>
  bif (decide (x4.2.2.2 < (x4.2.2.1.length : Int))) then
   (idx x4.2.2.1 x4.2.2.2).bind fun _ =>
   (x4.2.2.1[x4.2.2.2.toNat]?).bind fun e6 =>
   (wu x4.1 e6).bind fun r7 =>
   bif (decide (r7 >= 0)) then
    (gd (x4.2.1.length + [r7].length)).bind fun _ =>
    some (.inl (x4.1, x4.2.1 ++ [r7], x4.2.2.1, w64 (x4.2.2.2 + 1)))
   else
    some (.inl (x4.1, x4.2.1, x4.2.2.1, w64 (x4.2.2.2 + 1)))
  else
   (
    (tJ x4.2.1).bind fun r8 =>
    some (r8)
   ).bind fun r => some (.inr r)
 ) (a, [], r3, 0)
def KI : Fsp := ⟨82, [slF .part, shF .int], [slF .int], true, false, fun x => kG x.1 x.2⟩
def YL (a : List aF) (b : Int) : Option ((List Int)) :=
 ah (fun (x1 : (List aF) × Int × (List Int) × Int) =>
  bif (decide (x1.2.2.2 < (x1.1.length : Int))) then
   (kG x1.1 x1.2.2.2).bind fun r2 =>
   (dX r2 x1.2.1).bind fun r3 =>
   bif r3 then
    (gd (x1.2.2.1.length + [x1.2.2.2].length)).bind fun _ =>
    some (.inl (x1.1, x1.2.1, x1.2.2.1 ++ [x1.2.2.2], w64 (x1.2.2.2 + 1)))
   else
    some (.inl (x1.1, x1.2.1, x1.2.2.1, w64 (x1.2.2.2 + 1)))
  else
   some (.inr (x1.2.2.1))
 ) (a, b, [], 0)
def YK : Fsp := ⟨137, [slF .part, shF .int], [slF .int], true, false, fun x => YL x.1 x.2⟩
def G9 (a : List aF) (b : Int) (c : Bool) : Option ((List Int)) :=
 bif c then
  (YL a b).bind fun r1 =>
  some (r1)
 else
  (kG a b).bind fun r2 =>
  some (r2)
def Uh : Fsp := ⟨97, [slF .part, shF .int, shF .bool], [slF .int], true, false, fun x => G9 x.1 x.2.1 x.2.2⟩
def VN (a : List aF) (b : Int) (c : Bool) : Option ((List Int)) :=
 (G9 a b c).bind fun r1 =>
 ah (fun (x2 : (List aF) × Bool × (List Int) × Int) =>
  bif (decide (x2.2.2.2 < (x2.2.2.1.length : Int))) then
   (idx x2.2.2.1 x2.2.2.2).bind fun _ =>
   (x2.2.2.1[x2.2.2.2.toNat]?).bind fun e4 =>
   (G9 x2.1 e4 x2.2.1).bind fun r5 =>
   ah (fun (x6 : (List aF) × Bool × (List Int) × Int × (List Int) × Int) =>
    bif (decide (x6.2.2.2.2.2 < (x6.2.2.2.2.1.length : Int))) then
     (idx x6.2.2.2.2.1 x6.2.2.2.2.2).bind fun _ =>
     (x6.2.2.2.2.1[x6.2.2.2.2.2.toNat]?).bind fun e8 =>
     (dX x6.2.2.1 e8).bind fun r9 =>
     bif (!r9) then
      (idx x6.2.2.2.2.1 x6.2.2.2.2.2).bind fun _ =>
      (x6.2.2.2.2.1[x6.2.2.2.2.2.toNat]?).bind fun e11 =>
      (gd (x6.2.2.1.length + [e11].length)).bind fun _ =>
      some (.inl (x6.1, x6.2.1, x6.2.2.1 ++ [e11], x6.2.2.2.1, x6.2.2.2.2.1, w64 (x6.2.2.2.2.2 + 1)))
     else
      some (.inl (x6.1, x6.2.1, x6.2.2.1, x6.2.2.2.1, x6.2.2.2.2.1, w64 (x6.2.2.2.2.2 + 1)))
    else
     some (.inr (.inl (x6.1, x6.2.1, x6.2.2.1, w64 (x6.2.2.2.1 + 1))))
   ) (x2.1, x2.2.1, x2.2.2.1, x2.2.2.2, r5, 0)
  else
   (
    (tJ x2.2.2.1).bind fun r12 =>
    some (r12)
   ).bind fun r => some (.inr r)
 ) (a, c, r1, 0)
def Xi : Fsp := ⟨62, [slF .part, shF .int, shF .bool], [slF .int], true, false, fun x => VN x.1 x.2.1 x.2.2⟩
def QS (a : List aF) (b : Int) : Option ((List Int)) :=
 (VN a b false).bind fun r1 =>
 some (r1)
def Uy : Fsp := ⟨37, [slF .part, shF .int], [slF .int], true, false, fun x => QS x.1 x.2⟩
def Qx (a : List aF) (b : Int) : Option (Bool) :=
 (QS a b).bind fun r1 =>
 (dX r1 b).bind fun r2 =>
 some (r2)
def Ua : Fsp := ⟨18, [slF .part, shF .int], [shF .bool], true, false, fun x => Qx x.1 x.2⟩
def MK (a : List aF) (b : Bool) : Option ((List Str)) :=
 ah (fun (x1 : (List aF) × Bool × (List Str) × Int) =>
  bif (decide (x1.2.2.2 < (x1.1.length : Int))) then
   (idx x1.1 x1.2.2.2).bind fun e2 =>
   bif (e2.kind != 1) then
    (idx x1.1 x1.2.2.2).bind fun e3 =>
    (qZ x1.1 e3.name).bind fun r4 =>
    bif ((decide ((r4.length : Int) > 1)) == x1.2.1) then
     (idx x1.1 x1.2.2.2).bind fun e5 =>
     (gd (x1.2.2.1.length + ([e5.name] : List Str).length)).bind fun _ =>
     some (.inl (x1.1, x1.2.1, x1.2.2.1 ++ ([e5.name] : List Str), w64 (x1.2.2.2 + 1)))
    else
     some (.inl (x1.1, x1.2.1, x1.2.2.1, w64 (x1.2.2.2 + 1)))
   else
    some (.inl (x1.1, x1.2.1, x1.2.2.1, w64 (x1.2.2.2 + 1)))
  else
   (
    (lq x1.2.2.1).bind fun r6 =>
    some (r6)
   ).bind fun r => some (.inr r)
 ) (a, b, [], 0)
def QH : Fsp := ⟨40, [slF .part, shF .bool], [slF .str], true, false, fun x => MK x.1 x.2⟩
def uZ (a : List aF) : Option ((List Str)) :=
 (MK a true).bind fun r1 =>
 some (r1)
def Bj : Fsp := ⟨20, [slF .part], [slF .str], true, false, fun x => uZ x⟩
def yN (a : aW) : Option (Bool) :=
 (mQ a).bind fun r1 =>
 ah (fun (x2 : (List aV) × (List aF) × Int) =>
  bif (decide (x2.2.2 < (x2.2.1.length : Int))) then
   (idx x2.2.1 x2.2.2).bind fun _ =>
   (x2.2.1[x2.2.2.toNat]?).bind fun e4 =>
   bif (e4.kind == 4) then
    some (.inr (false))
   else
    (Qx x2.2.1 x2.2.2).bind fun r5 =>
    bif r5 then
     some (.inr (false))
    else
     some (.inl (x2.1, x2.2.1, w64 (x2.2.2 + 1)))
  else
   (
    (iI (aW.mk x2.1)).bind fun r6 =>
    bif r6 then
     (uZ x2.2.1).bind fun r7 =>
     some (((r7.length : Int) == 0))
    else
     some (false)
   ).bind fun r => some (.inr r)
 ) (a.cells, r1, 0)
def Fj : Fsp := ⟨6, [shT .notebook], [shF .bool], true, false, fun x => yN x⟩
def toCell (a : aV) : Option (aV) :=
 some (a)
def Yt : Fsp := ⟨41, [shT .cell], [shT .cell], true, false, fun x => toCell x⟩
def N7 (a : List aV) : Option ((List aV)) :=
 (mk (a.length : Int)).bind fun m1 =>
 ah (fun (x2 : (List aV) × (List aV) × Int) =>
  bif (decide (x2.2.2 < (x2.1.length : Int))) then
   (idx x2.1 x2.2.2).bind fun e3 =>
   (toCell e3).bind fun r4 =>
   (idx x2.2.1 x2.2.2).bind fun _ =>
   (x2.2.1[x2.2.2.toNat]?).bind fun e6 =>
   some (.inl (x2.1, x2.2.1.set x2.2.2.toNat r4, w64 (x2.2.2 + 1)))
  else
   some (.inr (x2.2.1))
 ) (a, List.replicate m1 (aV.mk 0 0 0 [] [] 0), 0)
def WQ : Fsp := ⟨21, [slF .cell], [slF .cell], true, false, fun x => N7 x⟩
def iw (a : aW) : Option (aW) :=
 (N7 a.cells).bind fun r1 =>
 some (aW.mk r1)
def NY : Fsp := ⟨7, [shT .notebook], [shT .notebook], true, false, fun x => iw x⟩
def jh (a : Int) (b : Int) (c : Int) : Option (Bool) :=
 bif (decide (b <= a)) then
  some ((decide (a <= c)))
 else
  some (false)
def XQ : Fsp := ⟨74, [shF .int, shF .int, shF .int], [shF .bool], true, false, fun x => jh x.1 x.2.1 x.2.2⟩
def nZ (a : Str) : Option (Bool) :=
 ah (fun (x1 : Str × Int) =>
  bif (decide (x1.2 < (x1.1.length : Int))) then
   (idx x1.1 x1.2).bind fun c2 =>
   bif (decide ((c2.toNat : Int) < 32)) then
    some (.inr (false))
   else
    (idx x1.1 x1.2).bind fun c3 =>
    bif (decide ((c3.toNat : Int) > 126)) then
     some (.inr (false))
    else
     some (.inl (x1.1, w64 (x1.2 + 1)))
  else
   some (.inr ((decide ((x1.1.length : Int) <= 120))))
 ) (a, 0)
def Jz : Fsp := ⟨75, [shF .str], [shF .bool], true, false, fun x => nZ x⟩
def F6 (a : Str) : Option (Bool) :=
 ah (fun (x1 : Str × Int) =>
  bif (decide (x1.2 < (x1.1.length : Int))) then
   (idx x1.1 x1.2).bind fun c2 =>
   bif (decide ((c2.toNat : Int) >= 97)) then
    (idx x1.1 x1.2).bind fun c3 =>
    bif (!(decide ((c3.toNat : Int) <= 122))) then
     bif (x1.2 == 0) then
      some (.inr (false))
     else
      (idx x1.1 x1.2).bind fun c4 =>
      bif (decide ((c4.toNat : Int) < 48)) then
       some (.inr (false))
      else
       (idx x1.1 x1.2).bind fun c5 =>
       bif (decide ((c5.toNat : Int) > 57)) then
        some (.inr (false))
       else
        some (.inl (x1.1, w64 (x1.2 + 1)))
    else
     some (.inl (x1.1, w64 (x1.2 + 1)))
   else
   bif (x1.2 == 0) then
    some (.inr (false))
   else
    (idx x1.1 x1.2).bind fun c6 =>
    bif (decide ((c6.toNat : Int) < 48)) then
     some (.inr (false))
    else
     (idx x1.1 x1.2).bind fun c7 =>
     bif (decide ((c7.toNat : Int) > 57)) then
      some (.inr (false))
     else
      some (.inl (x1.1, w64 (x1.2 + 1)))
  else
   (
    (jh (x1.1.length : Int) 1 8).bind fun r8 =>
    some (r8)
   ).bind fun r => some (.inr r)
 ) (a, 0)
def X0 : Fsp := ⟨110, [shF .str], [shF .bool], true, false, fun x => F6 x⟩
def dW (a : Str) : Option (Int) :=
 bif (a == [99, 108, 111, 99, 107]) then
  some (0)
 else
 bif (a == [108, 101, 110]) then
  some (1)
 else
 bif (a == [115, 117, 109]) then
  some (1)
 else
 bif (a == [114, 111, 119, 115]) then
  some (1)
 else
 bif (a == [99, 104, 97, 110, 99, 101]) then
  some (1)
 else
 bif (a == [102, 105, 108, 101]) then
  some (1)
 else
 bif (a == [116, 97, 107, 101]) then
  some (2)
 else
 bif (a == [115, 107, 105, 112]) then
  some (2)
 else
 bif (a == [114, 97, 110, 103, 101]) then
  some (2)
 else
 bif (a == [110, 116, 104]) then
  some (2)
 else
 bif (a == [107, 101, 101, 112]) then
  some (2)
 else
 bif (a == [99, 111, 108, 117, 109, 110]) then
  some (2)
 else
 bif (a == [116, 97, 98, 108, 101]) then
  some (2)
 else
 bif (a == [119, 104, 101, 114, 101]) then
  some (3)
 else
  bif (a == [103, 114, 111, 117, 112]) then
   some (3)
  else
   bif (a == [106, 111, 105, 110]) then
    some (3)
   else
    bif (a == [97, 100, 100]) then
     some (4)
    else
     some ((-1))
def DZ : Fsp := ⟨160, [shF .str], [shF .int], true, false, fun x => dW x⟩
def qp (a : Str) : Option (Bool) :=
 bif (a == [108, 101, 116]) then
  some (true)
 else
 bif (a == [105, 110]) then
  some (true)
 else
 bif (a == [105, 102]) then
  some (true)
 else
 bif (a == [116, 104, 101, 110]) then
  some (true)
 else
 bif (a == [101, 108, 115, 101]) then
  some (true)
 else
  bif (a == [102, 111, 114]) then
   some (true)
  else
   bif (a == [100, 111]) then
    some (true)
   else
    (dW a).bind fun r1 =>
    some ((decide (r1 >= 0)))
def Ls : Fsp := ⟨111, [shF .str], [shF .bool], true, false, fun x => qp x⟩
def bP (a : Str) : Option (Bool) :=
 (F6 a).bind fun r1 =>
 bif r1 then
  (qp a).bind fun r2 =>
  some ((!r2))
 else
  some (false)
def Jv : Fsp := ⟨76, [shF .str], [shF .bool], true, false, fun x => bP x⟩
def dV (a : aV) : Option (Bool) :=
 (jh a.id 1 999).bind fun r1 =>
 bif (!r1) then
  some (false)
 else
 (jh a.version 1 999).bind fun r2 =>
 bif (!r2) then
  some (false)
 else
 (nZ a.code).bind fun r3 =>
 bif (!r3) then
  some (false)
 else
 bif (a.kind == 1) then
  bif (a.name == []) then
   some ((a.n == 0))
  else
   some (false)
 else
 bif (a.kind == 2) then
  (bP a.name).bind fun r4 =>
  bif r4 then
   some ((a.n == 0))
  else
   some (false)
 else
 bif (a.kind == 4) then
  (bP a.name).bind fun r5 =>
  bif r5 then
   some ((a.n == 0))
  else
   some (false)
 else
 bif (a.kind == 3) then
  (bP a.name).bind fun r6 =>
  bif r6 then
   bif (a.code == []) then
    (jh a.n 0 100).bind fun r7 =>
    some (r7)
   else
    some (false)
  else
   some (false)
 else
  some (false)
def Jy : Fsp := ⟨43, [shT .cell], [shF .bool], true, false, fun x => dV x⟩
def uM (a : aW) (b : Int) : Option (Int) :=
 ah (fun (x1 : Int × (List aV) × Int × Int) =>
  bif (decide (x1.2.2.2 < x1.2.2.1)) then
   (idx x1.2.1 x1.2.2.2).bind fun e2 =>
   bif (e2.id == x1.1) then
    some (.inr (x1.2.2.2))
   else
    some (.inl (x1.1, x1.2.1, x1.2.2.1, w64 (x1.2.2.2 + 1)))
  else
   some (.inr ((-1)))
 ) (b, a.cells, (a.cells.length : Int), 0)
def PN : Fsp := ⟨44, [shT .notebook, shF .int], [shF .int], true, false, fun x => uM x.1 x.2⟩
def fQ (a : aW) : Option (Bool) :=
 ah (fun (x1 : (List aV) × (List aV) × Int × Int) =>
  bif (decide (x1.2.2.2 < x1.2.2.1)) then
   (idx x1.2.1 x1.2.2.2).bind fun e2 =>
   (dV e2).bind fun r3 =>
   bif (!r3) then
    some (.inr (false))
   else
    (uM (aW.mk x1.1) e2.id).bind fun r4 =>
    bif (r4 != x1.2.2.2) then
     some (.inr (false))
    else
     some (.inl (x1.1, x1.2.1, x1.2.2.1, w64 (x1.2.2.2 + 1)))
  else
   some (.inr ((decide ((x1.1.length : Int) <= 8))))
 ) (a.cells, a.cells, (a.cells.length : Int), 0)
def Ah : Fsp := ⟨23, [shT .notebook], [shF .bool], true, false, fun x => fQ x⟩
def uH (a : Int) : Option (bg) :=
 some (bg.mk 1 a 0 [] [] [] [])
def Js : Fsp := ⟨68, [shF .int], [shT .val], true, false, fun x => uH x⟩
def jL (a : Str) (b c : Int) : Option (Int × Bool) := mY a b c
def ZU : Fsp := ⟨152, [shF .str, shF .int, shF .int], [shF .int, shF .bool], true, false, fun x => jL x.1 x.2.1 x.2.2⟩
def eU (a : Str) : Option (Bool) :=
 ah (fun (x1 : Str × Int) =>
  bif (decide (x1.2 < (x1.1.length : Int))) then
   (idx x1.1 x1.2).bind fun c2 =>
   bif (decide ((c2.toNat : Int) < 32)) then
    some (.inr (false))
   else
    (idx x1.1 x1.2).bind fun c3 =>
    bif (decide ((c3.toNat : Int) > 126)) then
     some (.inr (false))
    else
     (idx x1.1 x1.2).bind fun c4 =>
     bif ((c4.toNat : Int) == 34) then
      some (.inr (false))
     else
      some (.inl (x1.1, w64 (x1.2 + 1)))
  else
   some (.inr ((decide ((x1.1.length : Int) <= 20))))
 ) (a, 0)
def Ju : Fsp := ⟨154, [shF .str], [shF .bool], true, false, fun x => eU x⟩
def Jb : Fsp := ⟨184, [shF .str, shF .u8], [shF .int], true, false, fun x => dG x.1 x.2⟩
def Jc : Fsp := ⟨185, [shF .str, shF .str], [shF .bool], true, false, fun x => gU x.1 x.2⟩
def gW (a : Str) (b : Int) : Option (aG × Int × Bool) :=
 (idx a b).bind fun c1 =>
 bif (decide ((c1.toNat : Int) >= 97)) then
  bif (decide ((c1.toNat : Int) <= 122)) then
   ah (fun (x2 : Str × Int × Int × Int × Int × Str × Int) =>
    bif (decide (x2.2.2.2.2.2.2 < (x2.1.length : Int))) then
     (idx x2.1 x2.2.2.2.2.2.2).bind fun c3 =>
     bif (decide ((c3.toNat : Int) >= 97)) then
      (idx x2.1 x2.2.2.2.2.2.2).bind fun c4 =>
      bif (decide ((c4.toNat : Int) <= 122)) then
       some (.inl (x2.1, x2.2.1, x2.2.2.1, x2.2.2.2.1, x2.2.2.2.2.1, x2.2.2.2.2.2.1, w64 (x2.2.2.2.2.2.2 + 1)))
      else
      (idx x2.1 x2.2.2.2.2.2.2).bind fun c5 =>
      bif (decide ((c5.toNat : Int) >= 48)) then
       (idx x2.1 x2.2.2.2.2.2.2).bind fun c6 =>
       bif (decide ((c6.toNat : Int) <= 57)) then
        some (.inl (x2.1, x2.2.1, x2.2.2.1, x2.2.2.2.1, x2.2.2.2.2.1, x2.2.2.2.2.2.1, w64 (x2.2.2.2.2.2.2 + 1)))
       else
        (
         (eff.cutL x2.1 (some x2.2.1) (some x2.2.2.2.2.2.2)).bind fun r7 =>
         some (aG.mk 1 0 x2.2.1 r7, x2.2.2.2.2.2.2, (decide ((w64 (x2.2.2.2.2.2.2 - x2.2.1)) <= 8)))
        ).bind fun r => some (.inr r)
      else
       (
        (eff.cutL x2.1 (some x2.2.1) (some x2.2.2.2.2.2.2)).bind fun r8 =>
        some (aG.mk 1 0 x2.2.1 r8, x2.2.2.2.2.2.2, (decide ((w64 (x2.2.2.2.2.2.2 - x2.2.1)) <= 8)))
       ).bind fun r => some (.inr r)
     else
     (idx x2.1 x2.2.2.2.2.2.2).bind fun c9 =>
     bif (decide ((c9.toNat : Int) >= 48)) then
      (idx x2.1 x2.2.2.2.2.2.2).bind fun c10 =>
      bif (decide ((c10.toNat : Int) <= 57)) then
       some (.inl (x2.1, x2.2.1, x2.2.2.1, x2.2.2.2.1, x2.2.2.2.2.1, x2.2.2.2.2.2.1, w64 (x2.2.2.2.2.2.2 + 1)))
      else
       (
        (eff.cutL x2.1 (some x2.2.1) (some x2.2.2.2.2.2.2)).bind fun r11 =>
        some (aG.mk 1 0 x2.2.1 r11, x2.2.2.2.2.2.2, (decide ((w64 (x2.2.2.2.2.2.2 - x2.2.1)) <= 8)))
       ).bind fun r => some (.inr r)
     else
      (
       (eff.cutL x2.1 (some x2.2.1) (some x2.2.2.2.2.2.2)).bind fun r12 =>
       some (aG.mk 1 0 x2.2.1 r12, x2.2.2.2.2.2.2, (decide ((w64 (x2.2.2.2.2.2.2 - x2.2.1)) <= 8)))
      ).bind fun r => some (.inr r)
    else
     (
      (eff.cutL x2.1 (some x2.2.1) (some x2.2.2.2.2.2.2)).bind fun r13 =>
      some (aG.mk 1 0 x2.2.1 r13, x2.2.2.2.2.2.2, (decide ((w64 (x2.2.2.2.2.2.2 - x2.2.1)) <= 8)))
     ).bind fun r => some (.inr r)
   ) (a, b, 0, 0, 0, [], b)
  else
  bif (decide ((c1.toNat : Int) >= 48)) then
   bif (decide ((c1.toNat : Int) <= 57)) then
    ah (fun (x14 : Str × Int × Int × Int × Int × Str × Int) =>
     bif (decide (x14.2.2.2.2.2.2 < (x14.1.length : Int))) then
      (idx x14.1 x14.2.2.2.2.2.2).bind fun c15 =>
      bif (decide ((c15.toNat : Int) >= 48)) then
       (idx x14.1 x14.2.2.2.2.2.2).bind fun c16 =>
       bif (decide ((c16.toNat : Int) <= 57)) then
        some (.inl (x14.1, x14.2.1, x14.2.2.1, x14.2.2.2.1, x14.2.2.2.2.1, x14.2.2.2.2.2.1, w64 (x14.2.2.2.2.2.2 + 1)))
       else
        (
         (eff.cutL x14.1 (some x14.2.1) (some x14.2.2.2.2.2.2)).bind fun r17 =>
         (jL r17 0 1000000000).bind fun r18 =>
         some (aG.mk 2 r18.1 x14.2.1 [], x14.2.2.2.2.2.2, r18.2)
        ).bind fun r => some (.inr r)
      else
       (
        (eff.cutL x14.1 (some x14.2.1) (some x14.2.2.2.2.2.2)).bind fun r19 =>
        (jL r19 0 1000000000).bind fun r20 =>
        some (aG.mk 2 r20.1 x14.2.1 [], x14.2.2.2.2.2.2, r20.2)
       ).bind fun r => some (.inr r)
     else
      (
       (eff.cutL x14.1 (some x14.2.1) (some x14.2.2.2.2.2.2)).bind fun r21 =>
       (jL r21 0 1000000000).bind fun r22 =>
       some (aG.mk 2 r22.1 x14.2.1 [], x14.2.2.2.2.2.2, r22.2)
      ).bind fun r => some (.inr r)
    ) (a, b, 0, 0, 0, [], b)
   else
   bif ((c1.toNat : Int) == 34) then
    (eff.cutL a (some (w64 (b + 1))) none).bind fun r23 =>
    (dG r23 34).bind fun r24 =>
    bif (decide (r24 < 0)) then
     some (aG.mk 0 0 0 [], 0, false)
    else
     (eff.cutL a (some (w64 (b + 1))) (some (w64 ((w64 (b + 1)) + r24)))).bind fun r25 =>
     (eU r25).bind fun r26 =>
     some (aG.mk 3 0 b r25, w64 ((w64 (b + r24)) + 2), r26)
   else
    (eff.cutL a (some b) none).bind fun r27 =>
    (gU r27 [61, 61]).bind fun r28 =>
    bif r28 then
     some (aG.mk 4 0 b [61, 61], w64 (b + 2), true)
    else
     (eff.cutL a (some b) (some (w64 (b + 1)))).bind fun r29 =>
     (dG [40, 41, 91, 93, 44, 43, 45, 42, 60, 61] (c1.toNat : Int)).bind fun r30 =>
     some (aG.mk 4 0 b r29, w64 (b + 1), (decide (r30 >= 0)))
  else
  bif ((c1.toNat : Int) == 34) then
   (eff.cutL a (some (w64 (b + 1))) none).bind fun r31 =>
   (dG r31 34).bind fun r32 =>
   bif (decide (r32 < 0)) then
    some (aG.mk 0 0 0 [], 0, false)
   else
    (eff.cutL a (some (w64 (b + 1))) (some (w64 ((w64 (b + 1)) + r32)))).bind fun r33 =>
    (eU r33).bind fun r34 =>
    some (aG.mk 3 0 b r33, w64 ((w64 (b + r32)) + 2), r34)
  else
   (eff.cutL a (some b) none).bind fun r35 =>
   (gU r35 [61, 61]).bind fun r36 =>
   bif r36 then
    some (aG.mk 4 0 b [61, 61], w64 (b + 2), true)
   else
    (eff.cutL a (some b) (some (w64 (b + 1)))).bind fun r37 =>
    (dG [40, 41, 91, 93, 44, 43, 45, 42, 60, 61] (c1.toNat : Int)).bind fun r38 =>
    some (aG.mk 4 0 b r37, w64 (b + 1), (decide (r38 >= 0)))
 else
 bif (decide ((c1.toNat : Int) >= 48)) then
  bif (decide ((c1.toNat : Int) <= 57)) then
   ah (fun (x39 : Str × Int × Int × Int × Int × Str × Int) =>
    bif (decide (x39.2.2.2.2.2.2 < (x39.1.length : Int))) then
     (idx x39.1 x39.2.2.2.2.2.2).bind fun c40 =>
     bif (decide ((c40.toNat : Int) >= 48)) then
      (idx x39.1 x39.2.2.2.2.2.2).bind fun c41 =>
      bif (decide ((c41.toNat : Int) <= 57)) then
       some (.inl (x39.1, x39.2.1, x39.2.2.1, x39.2.2.2.1, x39.2.2.2.2.1, x39.2.2.2.2.2.1, w64 (x39.2.2.2.2.2.2 + 1)))
      else
       (
        (eff.cutL x39.1 (some x39.2.1) (some x39.2.2.2.2.2.2)).bind fun r42 =>
        (jL r42 0 1000000000).bind fun r43 =>
        some (aG.mk 2 r43.1 x39.2.1 [], x39.2.2.2.2.2.2, r43.2)
       ).bind fun r => some (.inr r)
     else
      (
       (eff.cutL x39.1 (some x39.2.1) (some x39.2.2.2.2.2.2)).bind fun r44 =>
       (jL r44 0 1000000000).bind fun r45 =>
       some (aG.mk 2 r45.1 x39.2.1 [], x39.2.2.2.2.2.2, r45.2)
      ).bind fun r => some (.inr r)
    else
     (
      (eff.cutL x39.1 (some x39.2.1) (some x39.2.2.2.2.2.2)).bind fun r46 =>
      (jL r46 0 1000000000).bind fun r47 =>
      some (aG.mk 2 r47.1 x39.2.1 [], x39.2.2.2.2.2.2, r47.2)
     ).bind fun r => some (.inr r)
   ) (a, b, 0, 0, 0, [], b)
  else
  bif ((c1.toNat : Int) == 34) then
   (eff.cutL a (some (w64 (b + 1))) none).bind fun r48 =>
   (dG r48 34).bind fun r49 =>
   bif (decide (r49 < 0)) then
    some (aG.mk 0 0 0 [], 0, false)
   else
    (eff.cutL a (some (w64 (b + 1))) (some (w64 ((w64 (b + 1)) + r49)))).bind fun r50 =>
    (eU r50).bind fun r51 =>
    some (aG.mk 3 0 b r50, w64 ((w64 (b + r49)) + 2), r51)
  else
   (eff.cutL a (some b) none).bind fun r52 =>
   (gU r52 [61, 61]).bind fun r53 =>
   bif r53 then
    some (aG.mk 4 0 b [61, 61], w64 (b + 2), true)
   else
    (eff.cutL a (some b) (some (w64 (b + 1)))).bind fun r54 =>
    (dG [40, 41, 91, 93, 44, 43, 45, 42, 60, 61] (c1.toNat : Int)).bind fun r55 =>
    some (aG.mk 4 0 b r54, w64 (b + 1), (decide (r55 >= 0)))
 else
 bif ((c1.toNat : Int) == 34) then
  (eff.cutL a (some (w64 (b + 1))) none).bind fun r56 =>
  (dG r56 34).bind fun r57 =>
  bif (decide (r57 < 0)) then
   some (aG.mk 0 0 0 [], 0, false)
  else
   (eff.cutL a (some (w64 (b + 1))) (some (w64 ((w64 (b + 1)) + r57)))).bind fun r58 =>
   (eU r58).bind fun r59 =>
   some (aG.mk 3 0 b r58, w64 ((w64 (b + r57)) + 2), r59)
 else
  (eff.cutL a (some b) none).bind fun r60 =>
  (gU r60 [61, 61]).bind fun r61 =>
  bif r61 then
   some (aG.mk 4 0 b [61, 61], w64 (b + 2), true)
  else
   (eff.cutL a (some b) (some (w64 (b + 1)))).bind fun r62 =>
   (dG [40, 41, 91, 93, 44, 43, 45, 42, 60, 61] (c1.toNat : Int)).bind fun r63 =>
   some (aG.mk 4 0 b r62, w64 (b + 1), (decide (r63 >= 0)))
def U1 : Fsp := ⟨140, [shF .str, shF .int], [shT .token, shF .int, shF .bool], true, false, fun x => gW x.1 x.2⟩
def rV (a : Str) : Option ((List aG) × Int) :=
 bif (decide ((a.length : Int) > 120)) then
  some ([], 120)
 else
 ah (fun (x1 : Str × (List aG) × Int) =>
  bif (decide (x1.2.2 < (x1.1.length : Int))) then
   (idx x1.1 x1.2.2).bind fun c2 =>
   bif ((c2.toNat : Int) == 32) then
    some (.inl (x1.1, x1.2.1, w64 (x1.2.2 + 1)))
   else
    (gW x1.1 x1.2.2).bind fun r3 =>
    bif (!r3.2.2) then
     some (.inr ([], x1.2.2))
    else
     bif ((x1.2.1.length : Int) == 60) then
      some (.inr ([], x1.2.2))
     else
      (gd (x1.2.1.length + [r3.1].length)).bind fun _ =>
      some (.inl (x1.1, x1.2.1 ++ [r3.1], r3.2.1))
  else
   some (.inr (x1.2.1, (-1)))
 ) (a, [], 0)
def RQ : Fsp := ⟨101, [shF .str], [slF .token, shF .int], true, false, fun x => rV x⟩
def iC (a : aG) (b : Str) : Option (Bool) :=
 bif (a.kind == 1) then
  some ((a.text == b))
 else
  some (false)
def PE : Fsp := ⟨141, [shT .token, shF .str], [shF .bool], true, false, fun x => iC x.1 x.2⟩
def dK (a : aN) : Option (aN × aG) :=
 bif (decide (a.bad < 0)) then
  bif (decide (a.i < (a.toks.length : Int))) then
   (idx a.toks a.i).bind fun e1 =>
   some (a, e1)
  else
   some (a, aG.mk 0 0 0 [])
 else
  some (a, aG.mk 0 0 0 [])
def Le : Fsp := ⟨142, [shT .psr], [shT .psr, shT .token], false, false, fun x => dK x⟩
def eY (a : aN) : Option (aN × af) :=
 bif (decide (a.bad < 0)) then
  some (aN.mk a.toks a.i a.i, af.mk 0 0 [] [])
 else
  some (a, af.mk 0 0 [] [])
def Ll : Fsp := ⟨186, [shT .psr], [shT .psr, shT .expr], false, true, fun x => eY x⟩
def jy (a : aN) : Option (aN × Str) :=
 (dK a).bind fun r1 =>
 bif (r1.2.kind != 1) then
  (eY r1.1).bind fun r2 =>
  some (r2.1, [])
 else
  (bP r1.2.text).bind fun r3 =>
  bif (!r3) then
   (eY r1.1).bind fun r4 =>
   some (r4.1, [])
  else
   some (aN.mk r1.1.toks (w64 (r1.1.i + 1)) r1.1.bad, r1.2.text)
def Lj : Fsp := ⟨143, [shT .psr], [shT .psr, shF .str], false, false, fun x => jy x⟩
def su (a : aG) (b : Str) : Option (Bool) :=
 bif (a.kind == 4) then
  some ((a.text == b))
 else
  some (false)
def Si : Fsp := ⟨187, [shT .token, shF .str], [shF .bool], true, false, fun x => su x.1 x.2⟩
def bD (a : aN) (b : Str) : Option (aN) :=
 (dK a).bind fun r1 =>
 (iC r1.2 b).bind fun r2 =>
 bif r2 then
  some (aN.mk r1.1.toks (w64 (r1.1.i + 1)) r1.1.bad)
 else
  (dK r1.1).bind fun r3 =>
  (su r3.2 b).bind fun r4 =>
  bif r4 then
   some (aN.mk r3.1.toks (w64 (r3.1.i + 1)) r3.1.bad)
  else
   (eY r3.1).bind fun r5 =>
   some (r5.1)
def Lh : Fsp := ⟨144, [shT .psr, shF .str], [shT .psr], false, false, fun x => bD x.1 x.2⟩
def aT (a : aN) (b : Str) : Option (aN × Bool) :=
 (dK a).bind fun r1 =>
 (su r1.2 b).bind fun r2 =>
 bif r2 then
  some (aN.mk r1.1.toks (w64 (r1.1.i + 1)) r1.1.bad, true)
 else
  some (r1.1, false)
def FB : Fsp := ⟨146, [shT .psr, shF .str], [shT .psr, shF .bool], false, false, fun x => aT x.1 x.2⟩
def DU (a : Int) : Option (Str) :=
 (jh a 1 5).bind fun r1 =>
 bif (!r1) then
  some ([63])
 else
  (idx ([[43], [45], [42], [60], [61, 61]] : List Str) (w64 (a - 1))).bind fun _ =>
  (([[43], [45], [42], [60], [61, 61]] : List Str)[(w64 (a - 1)).toNat]?).bind fun e3 =>
  some (e3)
def RY : Fsp := ⟨147, [shF .int], [shF .str], true, false, fun x => DU x⟩
def uG (riParserExpr : aN -> Option (aN × af)) (riParserSum : aN -> Option (aN × af)) (riParserProduct : aN -> Option (aN × af)) (riParserAtom : aN -> Option (aN × af)) (riParserList2 : aN -> Str -> Option (aN × (List af))) (a : aN) : Option (aN × af) :=
 (dK a).bind fun r1 =>
 (iC r1.2 [108, 101, 116]).bind fun r2 =>
 bif r2 then
  (jy (aN.mk r1.1.toks (w64 (r1.1.i + 1)) r1.1.bad)).bind fun r3 =>
  (bD r3.1 [61]).bind fun r4 =>
  (riParserExpr r4).bind fun r5 =>
  (gd ([aj r5.2].length)).bind fun _ =>
  (bD r5.1 [105, 110]).bind fun r6 =>
  (riParserExpr r6).bind fun r7 =>
  (gd ([aj r5.2].length + [aj r7.2].length)).bind fun _ =>
  some (r7.1, af.mk 7 0 r3.2 ([aj r5.2] ++ [aj r7.2]))
 else
 (dK r1.1).bind fun r8 =>
 (iC r8.2 [105, 102]).bind fun r9 =>
 bif r9 then
  (riParserExpr (aN.mk r8.1.toks (w64 (r8.1.i + 1)) r8.1.bad)).bind fun r10 =>
  (gd ([aj r10.2].length)).bind fun _ =>
  (bD r10.1 [116, 104, 101, 110]).bind fun r11 =>
  (riParserExpr r11).bind fun r12 =>
  (gd ([aj r10.2].length + [aj r12.2].length)).bind fun _ =>
  (bD r12.1 [101, 108, 115, 101]).bind fun r13 =>
  (riParserExpr r13).bind fun r14 =>
  (gd (([aj r10.2] ++ [aj r12.2]).length + [aj r14.2].length)).bind fun _ =>
  some (r14.1, af.mk 8 0 [] (([aj r10.2] ++ [aj r12.2]) ++ [aj r14.2]))
 else
 (dK r8.1).bind fun r15 =>
 (iC r15.2 [102, 111, 114]).bind fun r16 =>
 bif r16 then
  (jy (aN.mk r15.1.toks (w64 (r15.1.i + 1)) r15.1.bad)).bind fun r17 =>
  (bD r17.1 [105, 110]).bind fun r18 =>
  (riParserExpr r18).bind fun r19 =>
  (gd ([aj r19.2].length)).bind fun _ =>
  (bD r19.1 [100, 111]).bind fun r20 =>
  (riParserExpr r20).bind fun r21 =>
  (gd ([aj r19.2].length + [aj r21.2].length)).bind fun _ =>
  some (r21.1, af.mk 9 0 r17.2 ([aj r19.2] ++ [aj r21.2]))
 else
 (riParserSum r15.1).bind fun r22 =>
 ah (fun (x23 : (List aG) × Int × Int × Int × Int × Str × (List af) × Int × Int × Str × (List af) × (List Int) × Int × Int) =>
  bif (decide (x23.2.2.2.2.2.2.2.2.2.2.2.2.2 < x23.2.2.2.2.2.2.2.2.2.2.2.2.1)) then
   (idx x23.2.2.2.2.2.2.2.2.2.2.2.1 x23.2.2.2.2.2.2.2.2.2.2.2.2.2).bind fun _ =>
   (x23.2.2.2.2.2.2.2.2.2.2.2.1[x23.2.2.2.2.2.2.2.2.2.2.2.2.2.toNat]?).bind fun e25 =>
   (DU e25).bind fun r26 =>
   (aT (aN.mk x23.1 x23.2.1 x23.2.2.1) r26).bind fun r27 =>
   bif r27.2 then
    (riParserSum r27.1).bind fun r28 =>
    some (.inr (r28.1, af.mk 6 e25 [] [af.mk x23.2.2.2.2.2.2.2.1 x23.2.2.2.2.2.2.2.2.1 x23.2.2.2.2.2.2.2.2.2.1 x23.2.2.2.2.2.2.2.2.2.2.1, aj r28.2]))
   else
    some (.inl (r27.1.toks, r27.1.i, r27.1.bad, x23.2.2.2.1, x23.2.2.2.2.1, x23.2.2.2.2.2.1, x23.2.2.2.2.2.2.1, x23.2.2.2.2.2.2.2.1, x23.2.2.2.2.2.2.2.2.1, x23.2.2.2.2.2.2.2.2.2.1, x23.2.2.2.2.2.2.2.2.2.2.1, x23.2.2.2.2.2.2.2.2.2.2.2.1, x23.2.2.2.2.2.2.2.2.2.2.2.2.1, w64 (x23.2.2.2.2.2.2.2.2.2.2.2.2.2 + 1)))
  else
   some (.inr (aN.mk x23.1 x23.2.1 x23.2.2.1, af.mk x23.2.2.2.2.2.2.2.1 x23.2.2.2.2.2.2.2.2.1 x23.2.2.2.2.2.2.2.2.2.1 x23.2.2.2.2.2.2.2.2.2.2.1))
 ) (r22.1.toks, r22.1.i, r22.1.bad, 0, 0, [], [], r22.2.kind, r22.2.n, r22.2.text, r22.2.args, [4, 5], ([4, 5].length : Int), 0)
def wS (riParserExpr : aN -> Option (aN × af)) (riParserSum : aN -> Option (aN × af)) (riParserProduct : aN -> Option (aN × af)) (riParserAtom : aN -> Option (aN × af)) (riParserList2 : aN -> Str -> Option (aN × (List af))) (a : aN) : Option (aN × af) :=
 (riParserProduct a).bind fun r1 =>
 ah (fun (x2 : (List aG) × Int × Int × Int × Int × Str × (List af) × Int × Int × Str × (List af)) =>
  bif (decide (x2.2.2.1 < 0)) then
   (aT (aN.mk x2.1 x2.2.1 x2.2.2.1) [43]).bind fun r3 =>
   bif (!r3.2) then
    (aT r3.1 [45]).bind fun r4 =>
    bif (!r4.2) then
     some (.inr (r4.1, af.mk x2.2.2.2.2.2.2.2.1 x2.2.2.2.2.2.2.2.2.1 x2.2.2.2.2.2.2.2.2.2.1 x2.2.2.2.2.2.2.2.2.2.2))
    else
     (riParserProduct r4.1).bind fun r5 =>
     some (.inl (r5.1.toks, r5.1.i, r5.1.bad, x2.2.2.2.1, x2.2.2.2.2.1, x2.2.2.2.2.2.1, x2.2.2.2.2.2.2.1, 6, 2, [], [af.mk x2.2.2.2.2.2.2.2.1 x2.2.2.2.2.2.2.2.2.1 x2.2.2.2.2.2.2.2.2.2.1 x2.2.2.2.2.2.2.2.2.2.2, aj r5.2]))
   else
    (riParserProduct r3.1).bind fun r6 =>
    some (.inl (r6.1.toks, r6.1.i, r6.1.bad, x2.2.2.2.1, x2.2.2.2.2.1, x2.2.2.2.2.2.1, x2.2.2.2.2.2.2.1, 6, 1, [], [af.mk x2.2.2.2.2.2.2.2.1 x2.2.2.2.2.2.2.2.2.1 x2.2.2.2.2.2.2.2.2.2.1 x2.2.2.2.2.2.2.2.2.2.2, aj r6.2]))
  else
   some (.inr (aN.mk x2.1 x2.2.1 x2.2.2.1, af.mk x2.2.2.2.2.2.2.2.1 x2.2.2.2.2.2.2.2.2.1 x2.2.2.2.2.2.2.2.2.2.1 x2.2.2.2.2.2.2.2.2.2.2))
 ) (r1.1.toks, r1.1.i, r1.1.bad, 0, 0, [], [], r1.2.kind, r1.2.n, r1.2.text, r1.2.args)
def nD (riParserExpr : aN -> Option (aN × af)) (riParserSum : aN -> Option (aN × af)) (riParserProduct : aN -> Option (aN × af)) (riParserAtom : aN -> Option (aN × af)) (riParserList2 : aN -> Str -> Option (aN × (List af))) (a : aN) : Option (aN × af) :=
 (riParserAtom a).bind fun r1 =>
 ah (fun (x2 : (List aG) × Int × Int × Int × Int × Str × (List af) × Int × Int × Str × (List af)) =>
  (aT (aN.mk x2.1 x2.2.1 x2.2.2.1) [42]).bind fun r3 =>
  bif r3.2 then
   (riParserAtom r3.1).bind fun r4 =>
   some (.inl (r4.1.toks, r4.1.i, r4.1.bad, x2.2.2.2.1, x2.2.2.2.2.1, x2.2.2.2.2.2.1, x2.2.2.2.2.2.2.1, 6, 3, [], [af.mk x2.2.2.2.2.2.2.2.1 x2.2.2.2.2.2.2.2.2.1 x2.2.2.2.2.2.2.2.2.2.1 x2.2.2.2.2.2.2.2.2.2.2, aj r4.2]))
  else
   some (.inr (r3.1, af.mk x2.2.2.2.2.2.2.2.1 x2.2.2.2.2.2.2.2.2.1 x2.2.2.2.2.2.2.2.2.2.1 x2.2.2.2.2.2.2.2.2.2.2))
 ) (r1.1.toks, r1.1.i, r1.1.bad, 0, 0, [], [], r1.2.kind, r1.2.n, r1.2.text, r1.2.args)
def nY (riParserExpr : aN -> Option (aN × af)) (riParserSum : aN -> Option (aN × af)) (riParserProduct : aN -> Option (aN × af)) (riParserAtom : aN -> Option (aN × af)) (riParserList2 : aN -> Str -> Option (aN × (List af))) (a : aN) : Option (aN × af) :=
 (dK a).bind fun r1 =>
 bif (r1.2.kind == 2) then
  some (aN.mk r1.1.toks (w64 (r1.1.i + 1)) r1.1.bad, af.mk 1 r1.2.n [] [])
 else
 bif (r1.2.kind == 3) then
  some (aN.mk r1.1.toks (w64 (r1.1.i + 1)) r1.1.bad, af.mk 2 0 r1.2.text [])
 else
 bif (r1.2.kind == 1) then
  (bP r1.2.text).bind fun r2 =>
  bif r2 then
   some (aN.mk r1.1.toks (w64 (r1.1.i + 1)) r1.1.bad, af.mk 3 0 r1.2.text [])
  else
  bif (r1.2.kind == 1) then
   (dW r1.2.text).bind fun r3 =>
   bif (decide (r3 >= 0)) then
    (bD (aN.mk r1.1.toks (w64 (r1.1.i + 1)) r1.1.bad) [40]).bind fun r4 =>
    (riParserList2 r4 [41]).bind fun r5 =>
    some (r5.1, af.mk 5 0 r1.2.text r5.2)
   else
   (aT r1.1 [91]).bind fun r6 =>
   bif r6.2 then
    (riParserList2 r6.1 [93]).bind fun r7 =>
    some (r7.1, af.mk 4 0 [] r7.2)
   else
    (aT r6.1 [40]).bind fun r8 =>
    bif r8.2 then
     (riParserExpr r8.1).bind fun r9 =>
     (bD r9.1 [41]).bind fun r10 =>
     some (r10, aj r9.2)
    else
     (eY r8.1).bind fun r11 =>
     some (r11.1, aj r11.2)
  else
  (aT r1.1 [91]).bind fun r12 =>
  bif r12.2 then
   (riParserList2 r12.1 [93]).bind fun r13 =>
   some (r13.1, af.mk 4 0 [] r13.2)
  else
   (aT r12.1 [40]).bind fun r14 =>
   bif r14.2 then
    (riParserExpr r14.1).bind fun r15 =>
    (bD r15.1 [41]).bind fun r16 =>
    some (r16, aj r15.2)
   else
    (eY r14.1).bind fun r17 =>
    some (r17.1, aj r17.2)
 else
 bif (r1.2.kind == 1) then
  (dW r1.2.text).bind fun r18 =>
  bif (decide (r18 >= 0)) then
   (bD (aN.mk r1.1.toks (w64 (r1.1.i + 1)) r1.1.bad) [40]).bind fun r19 =>
   (riParserList2 r19 [41]).bind fun r20 =>
   some (r20.1, af.mk 5 0 r1.2.text r20.2)
  else
  (aT r1.1 [91]).bind fun r21 =>
  bif r21.2 then
   (riParserList2 r21.1 [93]).bind fun r22 =>
   some (r22.1, af.mk 4 0 [] r22.2)
  else
   (aT r21.1 [40]).bind fun r23 =>
   bif r23.2 then
    (riParserExpr r23.1).bind fun r24 =>
    (bD r24.1 [41]).bind fun r25 =>
    some (r25, aj r24.2)
   else
    (eY r23.1).bind fun r26 =>
    some (r26.1, aj r26.2)
 else
 (aT r1.1 [91]).bind fun r27 =>
 bif r27.2 then
  (riParserList2 r27.1 [93]).bind fun r28 =>
  some (r28.1, af.mk 4 0 [] r28.2)
 else
  (aT r27.1 [40]).bind fun r29 =>
  bif r29.2 then
   (riParserExpr r29.1).bind fun r30 =>
   (bD r30.1 [41]).bind fun r31 =>
   some (r31, aj r30.2)
  else
   (eY r29.1).bind fun r32 =>
   some (r32.1, aj r32.2)
def jQ (riParserExpr : aN -> Option (aN × af)) (riParserSum : aN -> Option (aN × af)) (riParserProduct : aN -> Option (aN × af)) (riParserAtom : aN -> Option (aN × af)) (riParserList2 : aN -> Str -> Option (aN × (List af))) (a : aN) (b : Str) : Option (aN × (List af)) :=
 (aT a b).bind fun r1 =>
 bif r1.2 then
  some (r1.1, [])
 else
 ah (fun (x2 : (List aG) × Int × Int × Str × (List af)) =>
  bif (decide (x2.2.2.1 < 0)) then
   (riParserExpr (aN.mk x2.1 x2.2.1 x2.2.2.1)).bind fun r3 =>
   (gd (x2.2.2.2.2.length + [aj r3.2].length)).bind fun _ =>
   (aT r3.1 x2.2.2.2.1).bind fun r4 =>
   bif r4.2 then
    some (.inr (r4.1, x2.2.2.2.2 ++ [aj r3.2]))
   else
    (bD r4.1 [44]).bind fun r5 =>
    some (.inl (r5.toks, r5.i, r5.bad, x2.2.2.2.1, x2.2.2.2.2 ++ [aj r3.2]))
  else
   some (.inr (aN.mk x2.1 x2.2.1 x2.2.2.1, x2.2.2.2.2))
 ) (r1.1.toks, r1.1.i, r1.1.bad, b, [])
def au : Nat -> (aN -> Option (aN × af)) × (aN -> Option (aN × af)) × (aN -> Option (aN × af)) × (aN -> Option (aN × af)) × (aN -> Str -> Option (aN × (List af)))
 | 0 => (fun _ => none, fun _ => none, fun _ => none, fun _ => none, fun _ _ => none)
 | n + 1 => (uG (au n).1 (au n).2.1 (au n).2.2.1 (au n).2.2.2.1 (au n).2.2.2.2, wS (au n).1 (au n).2.1 (au n).2.2.1 (au n).2.2.2.1 (au n).2.2.2.2, nD (au n).1 (au n).2.1 (au n).2.2.1 (au n).2.2.2.1 (au n).2.2.2.2, nY (au n).1 (au n).2.1 (au n).2.2.1 (au n).2.2.2.1 (au n).2.2.2.2, jQ (au n).1 (au n).2.1 (au n).2.2.1 (au n).2.2.2.1 (au n).2.2.2.2)
def wW (a : aN) : Option (aN × af) := (au (siz a + 1)).1 a
def Lm : Fsp := ⟨102, [shT .psr], [shT .psr, shT .expr], false, false, fun x => wW x⟩
def wV (n : Nat) : Fsp := ⟨102, [shT .psr], [shT .psr, shT .expr], false, false, fun x => (au n).1 x⟩
def U5 (a : aN) : Option (aN × af) := (au (siz a + 1)).2.1 a
def Pn : Fsp := ⟨145, [shT .psr], [shT .psr, shT .expr], false, false, fun x => U5 x⟩
def yS (n : Nat) : Fsp := ⟨145, [shT .psr], [shT .psr, shT .expr], false, false, fun x => (au n).2.1 x⟩
def Jp (a : aN) : Option (aN × af) := (au (siz a + 1)).2.2.1 a
def DT : Fsp := ⟨188, [shT .psr], [shT .psr, shT .expr], false, false, fun x => Jp x⟩
def ql (n : Nat) : Fsp := ⟨188, [shT .psr], [shT .psr, shT .expr], false, false, fun x => (au n).2.2.1 x⟩
def RX (a : aN) : Option (aN × af) := (au (siz a + 1)).2.2.2.1 a
def Lp : Fsp := ⟨211, [shT .psr], [shT .psr, shT .expr], false, false, fun x => RX x⟩
def wX (n : Nat) : Fsp := ⟨211, [shT .psr], [shT .psr, shT .expr], false, false, fun x => (au n).2.2.2.1 x⟩
def Po (a : aN) (b : Str) : Option (aN × (List af)) := (au (siz a + 1)).2.2.2.2 a b
def Jq : Fsp := ⟨233, [shT .psr, shF .str], [shT .psr, slF .expr], false, false, fun x => Po x.1 x.2⟩
def vw (n : Nat) : Fsp := ⟨233, [shT .psr, shF .str], [shT .psr, slF .expr], false, false, fun x => (au n).2.2.2.2 x.1 x.2⟩
def wY (riNodeCount : af -> Option (Int)) (a : af) : Option (Int) :=
 ah (fun (x1 : Int × (List af) × Int × Int) =>
  bif (decide (x1.2.2.2 < x1.2.2.1)) then
   (idx x1.2.1 x1.2.2.2).bind fun e2 =>
   (riNodeCount (aj e2)).bind fun r3 =>
   some (.inl (w64 (x1.1 + r3), x1.2.1, x1.2.2.1, w64 (x1.2.2.2 + 1)))
  else
   some (.inr (x1.1))
 ) (1, a.args, (a.args.length : Int), 0)
def kH : Nat -> (af -> Option (Int))
 | 0 => fun _ => none
 | n + 1 => wY (kH n)
def Ae (a : af) : Option (Int) := (kH (siz a + 1)) a
def Py : Fsp := ⟨148, [shT .expr], [shF .int], true, false, fun x => Ae x⟩
def yU (n : Nat) : Fsp := ⟨148, [shT .expr], [shF .int], true, false, fun x => (kH n) x⟩
def xg (riNestingOf : af -> Option (Int)) (a : af) : Option (Int) :=
 ah (fun (x1 : Int × (List af) × Int × Int) =>
  bif (decide (x1.2.2.2 < x1.2.2.1)) then
   (idx x1.2.1 x1.2.2.2).bind fun e2 =>
   (riNestingOf (aj e2)).bind fun r3 =>
   some (.inl ((if r3 > x1.1 then r3 else x1.1), x1.2.1, x1.2.2.1, w64 (x1.2.2.2 + 1)))
  else
   some (.inr (w64 (x1.1 + 1)))
 ) (0, a.args, (a.args.length : Int), 0)
def mZ : Nat -> (af -> Option (Int))
 | 0 => fun _ => none
 | n + 1 => xg (mZ n)
def Af (a : af) : Option (Int) := (mZ (siz a + 1)) a
def Pz : Fsp := ⟨149, [shT .expr], [shF .int], true, false, fun x => Af x⟩
def yV (n : Nat) : Fsp := ⟨149, [shT .expr], [shF .int], true, false, fun x => (mZ n) x⟩
def yA (a : af) : Option (Bool) :=
 bif (a.kind == 1) then
  (jh a.n 0 1000000000).bind fun r1 =>
  bif r1 then
   bif (a.text == []) then
    some (((a.args.length : Int) == 0))
   else
    some (false)
  else
   some (false)
 else
 bif (a.kind == 2) then
  bif (a.n == 0) then
   (eU a.text).bind fun r2 =>
   bif r2 then
    some (((a.args.length : Int) == 0))
   else
    some (false)
  else
   some (false)
 else
 bif (a.kind == 3) then
  bif (a.n == 0) then
   (bP a.text).bind fun r3 =>
   bif r3 then
    some (((a.args.length : Int) == 0))
   else
    some (false)
  else
   some (false)
 else
 bif (a.kind == 4) then
  bif (a.n == 0) then
   bif (a.text == []) then
    some ((decide ((a.args.length : Int) <= 8)))
   else
    some (false)
  else
   some (false)
 else
 bif (a.kind == 5) then
  bif (a.n == 0) then
   (dW a.text).bind fun r4 =>
   some (((a.args.length : Int) == r4))
  else
   some (false)
 else
 bif (a.kind == 6) then
  (jh a.n 1 5).bind fun r5 =>
  bif r5 then
   bif (a.text == []) then
    some (((a.args.length : Int) == 2))
   else
    some (false)
  else
   some (false)
 else
 bif (a.kind == 7) then
  bif (a.n == 0) then
   (bP a.text).bind fun r6 =>
   bif r6 then
    some (((a.args.length : Int) == 2))
   else
    some (false)
  else
   some (false)
 else
 bif (a.kind == 9) then
  bif (a.n == 0) then
   (bP a.text).bind fun r7 =>
   bif r7 then
    some (((a.args.length : Int) == 2))
   else
    some (false)
  else
   some (false)
 else
  bif (a.kind == 8) then
   bif (a.n == 0) then
    bif (a.text == []) then
     some (((a.args.length : Int) == 3))
    else
     some (false)
   else
    some (false)
  else
   some (false)
def X3 : Fsp := ⟨189, [shT .expr], [shF .bool], true, false, fun x => yA x⟩
def Aj (riAreNodes : af -> Option (Bool)) (a : af) : Option (Bool) :=
 ah (fun (x1 : Int × Int × Str × (List af) × (List af) × Int × Int) =>
  bif (decide (x1.2.2.2.2.2.2 < x1.2.2.2.2.2.1)) then
   (idx x1.2.2.2.2.1 x1.2.2.2.2.2.2).bind fun e2 =>
   (riAreNodes (aj e2)).bind fun r3 =>
   bif (!r3) then
    some (.inr (false))
   else
    some (.inl (x1.1, x1.2.1, x1.2.2.1, x1.2.2.2.1, x1.2.2.2.2.1, x1.2.2.2.2.2.1, w64 (x1.2.2.2.2.2.2 + 1)))
  else
   (
    (yA (af.mk x1.1 x1.2.1 x1.2.2.1 x1.2.2.2.1)).bind fun r4 =>
    some (r4)
   ).bind fun r => some (.inr r)
 ) (a.kind, a.n, a.text, a.args, a.args, (a.args.length : Int), 0)
def pI : Nat -> (af -> Option (Bool))
 | 0 => fun _ => none
 | n + 1 => Aj (pI n)
def yB (a : af) : Option (Bool) := (pI (siz a + 1)) a
def Sz : Fsp := ⟨150, [shT .expr], [shF .bool], true, false, fun x => yB x⟩
def Cc (n : Nat) : Fsp := ⟨150, [shT .expr], [shF .bool], true, false, fun x => (pI n) x⟩
def gX (a : af) : Option (Bool) :=
 (Ae (aj a)).bind fun r1 =>
 bif (decide (r1 <= 40)) then
  (Af (aj a)).bind fun r2 =>
  bif (decide (r2 <= 8)) then
   (yB (aj a)).bind fun r3 =>
   some (r3)
  else
   some (false)
 else
  some (false)
def Jw : Fsp := ⟨103, [shT .expr], [shF .bool], true, false, fun x => gX x⟩
def pG (a : Str) : Option (af × Int) :=
 (rV a).bind fun r1 =>
 bif (decide (r1.2 >= 0)) then
  some (af.mk 0 0 [] [], r1.2)
 else
 (wW (aN.mk r1.1 0 (-1))).bind fun r2 =>
 bif (decide (r2.1.bad < 0)) then
  bif (decide (r2.1.i < (r1.1.length : Int))) then
   bif (decide (r2.1.i >= (r1.1.length : Int))) then
    some (af.mk 0 0 [] [], (a.length : Int))
   else
   bif (decide (r2.1.i >= 0)) then
    (idx r1.1 r2.1.i).bind fun _ =>
    (r1.1[r2.1.i.toNat]?).bind fun e4 =>
    some (af.mk 0 0 [] [], e4.pos)
   else
    (gX (aj r2.2)).bind fun r5 =>
    bif (!r5) then
     some (af.mk 0 0 [] [], 0)
    else
     some (aj r2.2, (-1))
  else
  bif (decide (r2.1.bad >= (r1.1.length : Int))) then
   some (af.mk 0 0 [] [], (a.length : Int))
  else
  bif (decide (r2.1.bad >= 0)) then
   (idx r1.1 r2.1.bad).bind fun _ =>
   (r1.1[r2.1.bad.toNat]?).bind fun e7 =>
   some (af.mk 0 0 [] [], e7.pos)
  else
   (gX (aj r2.2)).bind fun r8 =>
   bif (!r8) then
    some (af.mk 0 0 [] [], 0)
   else
    some (aj r2.2, (-1))
 else
 bif (decide (r2.1.bad >= (r1.1.length : Int))) then
  some (af.mk 0 0 [] [], (a.length : Int))
 else
 bif (decide (r2.1.bad >= 0)) then
  (idx r1.1 r2.1.bad).bind fun _ =>
  (r1.1[r2.1.bad.toNat]?).bind fun e10 =>
  some (af.mk 0 0 [] [], e10.pos)
 else
  (gX (aj r2.2)).bind fun r11 =>
  bif (!r11) then
   some (af.mk 0 0 [] [], 0)
  else
   some (aj r2.2, (-1))
def Pv : Fsp := ⟨69, [shF .str], [shT .expr, shF .int], false, false, fun x => pG x⟩
def jA (a : Int) : Option (bg) :=
 some (bg.mk 6 a 0 [] [] [] [])
def Lu : Fsp := ⟨70, [shF .int], [shT .val], true, false, fun x => jA x⟩
def UU : Fsp := ⟨104, [shF .str, shF .str], [slF .str], true, false, fun x => jc x.1 x.2⟩
def jw (a : Str) (b : Int) : Option ((List Str)) :=
 (jc a (bytesOf [b])).bind fun r1 =>
 some (r1)
def Pj : Fsp := ⟨105, [shF .str, shF .u8], [slF .str], true, false, fun x => jw x.1 x.2⟩
def sF (a : Str) (b : Int) : Option ((List Int) × Bool) :=
 (jw a 32).bind fun r1 =>
 ah (fun (x2 : Int × (List Int) × (List Str) × Int × Int) =>
  bif (decide (x2.2.2.2.2 < x2.2.2.2.1)) then
   (idx x2.2.2.1 x2.2.2.2.2).bind fun _ =>
   (x2.2.2.1[x2.2.2.2.2.toNat]?).bind fun e4 =>
   (jL e4 (-1000000000) 1000000000).bind fun r5 =>
   bif (!r5.2) then
    some (.inr ([], false))
   else
    (gd (x2.2.1.length + [r5.1].length)).bind fun _ =>
    some (.inl (x2.1, x2.2.1 ++ [r5.1], x2.2.2.1, x2.2.2.2.1, w64 (x2.2.2.2.2 + 1)))
  else
   some (.inr (x2.2.1, ((x2.2.1.length : Int) == x2.1)))
 ) (b, [], r1, (r1.length : Int), 0)
def U9 : Fsp := ⟨106, [shF .str, shF .int], [slF .int, shF .bool], true, false, fun x => sF x.1 x.2⟩
def sD (a : List Str) (b : Str) : Option (Int) :=
 ah (fun (x1 : Str × (List Str) × Int × Int) =>
  bif (decide (x1.2.2.2 < x1.2.2.1)) then
   (idx x1.2.1 x1.2.2.2).bind fun e2 =>
   bif (e2 == x1.1) then
    some (.inr (x1.2.2.2))
   else
    some (.inl (x1.1, x1.2.1, x1.2.2.1, w64 (x1.2.2.2 + 1)))
  else
   some (.inr ((-1)))
 ) (b, a, (a.length : Int), 0)
def U8 : Fsp := ⟨112, [slF .str, shF .str], [shF .int], true, false, fun x => sD x.1 x.2⟩
def oh (a : List Str) : Option (Bool) :=
 ah (fun (x1 : (List Str) × (List Str) × Int × Int) =>
  bif (decide (x1.2.2.2 < x1.2.2.1)) then
   (idx x1.2.1 x1.2.2.2).bind fun e2 =>
   (sD x1.1 e2).bind fun r3 =>
   bif (r3 != x1.2.2.2) then
    some (.inr (false))
   else
    some (.inl (x1.1, x1.2.1, x1.2.2.1, w64 (x1.2.2.2 + 1)))
  else
   some (.inr (true))
 ) (a, a, (a.length : Int), 0)
def JH : Fsp := ⟨157, [slF .str], [shF .bool], true, false, fun x => oh x⟩
def ng (a : List Str) : Option (Bool) :=
 ah (fun (x1 : (List Str) × (List Str) × Int × Int) =>
  bif (decide (x1.2.2.2 < x1.2.2.1)) then
   (idx x1.2.1 x1.2.2.2).bind fun e2 =>
   (bP e2).bind fun r3 =>
   bif (!r3) then
    some (.inr (false))
   else
    some (.inl (x1.1, x1.2.1, x1.2.2.1, w64 (x1.2.2.2 + 1)))
  else
   (
    (jh (x1.1.length : Int) 1 4).bind fun r4 =>
    bif r4 then
     (oh x1.1).bind fun r5 =>
     some (r5)
    else
     some (false)
   ).bind fun r => some (.inr r)
 ) (a, a, (a.length : Int), 0)
def LH : Fsp := ⟨108, [slF .str], [shF .bool], true, false, fun x => ng x⟩
def yx (a : Int) : Option (Bool) :=
 (jh a (-1000000000) 1000000000).bind fun r1 =>
 some (r1)
def Sj : Fsp := ⟨153, [shF .int], [shF .bool], true, false, fun x => yx x⟩
def yT (a : gy) (b : gy) : Option (Bool) :=
 bif (decide (a.cell < b.cell)) then
  some (true)
 else
  bif (a.cell == b.cell) then
   some ((decide (a.row < b.row)))
  else
   some (false)
def FC : Fsp := ⟨194, [shT .origin, shT .origin], [shF .bool], true, false, fun x => yT x.1 x.2⟩
def xh (a : bg) : Option (Bool) :=
 (ng a.columns).bind fun r1 =>
 bif (!r1) then
  some (false)
 else
 bif (decide ((a.rows.length : Int) > 12)) then
  some (false)
 else
 ah (fun (x2 : Int × Int × Int × Str × (List bg) × (List Str) × (List bQ) × (List bQ) × Int × Int) =>
  bif (decide (x2.2.2.2.2.2.2.2.2.2 < x2.2.2.2.2.2.2.2.2.1)) then
   (idx x2.2.2.2.2.2.2.2.1 x2.2.2.2.2.2.2.2.2.2).bind fun e3 =>
   bif ((e3.cells.length : Int) != (x2.2.2.2.2.2.1.length : Int)) then
    some (.inr (false))
   else
   ah (fun (x4 : Int × Int × Int × Str × (List bg) × (List Str) × (List bQ) × (List Int) × (List gy) × (List bQ) × Int × Int × (List Int) × Int × Int) =>
    bif (decide (x4.2.2.2.2.2.2.2.2.2.2.2.2.2.2 < x4.2.2.2.2.2.2.2.2.2.2.2.2.2.1)) then
     (idx x4.2.2.2.2.2.2.2.2.2.2.2.2.1 x4.2.2.2.2.2.2.2.2.2.2.2.2.2.2).bind fun e5 =>
     (yx e5).bind fun r6 =>
     bif (!r6) then
      (
       some (.inr (false))
      ).bind fun r => some (.inr r)
     else
      some (.inl (x4.1, x4.2.1, x4.2.2.1, x4.2.2.2.1, x4.2.2.2.2.1, x4.2.2.2.2.2.1, x4.2.2.2.2.2.2.1, x4.2.2.2.2.2.2.2.1, x4.2.2.2.2.2.2.2.2.1, x4.2.2.2.2.2.2.2.2.2.1, x4.2.2.2.2.2.2.2.2.2.2.1, x4.2.2.2.2.2.2.2.2.2.2.2.1, x4.2.2.2.2.2.2.2.2.2.2.2.2.1, x4.2.2.2.2.2.2.2.2.2.2.2.2.2.1, w64 (x4.2.2.2.2.2.2.2.2.2.2.2.2.2.2 + 1)))
    else
    (
     ah (fun (x7 : Int × Int × Int × Str × (List bg) × (List Str) × (List bQ) × (List Int) × (List gy) × (List bQ) × Int × Int × (List gy) × Int × Int) =>
      bif (decide (x7.2.2.2.2.2.2.2.2.2.2.2.2.2.2 < x7.2.2.2.2.2.2.2.2.2.2.2.2.2.1)) then
       (idx x7.2.2.2.2.2.2.2.2.2.2.2.2.1 x7.2.2.2.2.2.2.2.2.2.2.2.2.2.2).bind fun e8 =>
       bif (decide (e8.cell < 0)) then
        (
         some (.inr (false))
        ).bind fun r => some (.inr r)
       else
       bif (decide (e8.row < 0)) then
        (
         some (.inr (false))
        ).bind fun r => some (.inr r)
       else
        bif (decide (x7.2.2.2.2.2.2.2.2.2.2.2.2.2.2 > 0)) then
         (idx x7.2.2.2.2.2.2.2.2.1 (w64 (x7.2.2.2.2.2.2.2.2.2.2.2.2.2.2 - 1))).bind fun e9 =>
         (yT e9 e8).bind fun r10 =>
         bif (!r10) then
          (
           some (.inr (false))
          ).bind fun r => some (.inr r)
         else
          some (.inl (x7.1, x7.2.1, x7.2.2.1, x7.2.2.2.1, x7.2.2.2.2.1, x7.2.2.2.2.2.1, x7.2.2.2.2.2.2.1, x7.2.2.2.2.2.2.2.1, x7.2.2.2.2.2.2.2.2.1, x7.2.2.2.2.2.2.2.2.2.1, x7.2.2.2.2.2.2.2.2.2.2.1, x7.2.2.2.2.2.2.2.2.2.2.2.1, x7.2.2.2.2.2.2.2.2.2.2.2.2.1, x7.2.2.2.2.2.2.2.2.2.2.2.2.2.1, w64 (x7.2.2.2.2.2.2.2.2.2.2.2.2.2.2 + 1)))
        else
         some (.inl (x7.1, x7.2.1, x7.2.2.1, x7.2.2.2.1, x7.2.2.2.2.1, x7.2.2.2.2.2.1, x7.2.2.2.2.2.2.1, x7.2.2.2.2.2.2.2.1, x7.2.2.2.2.2.2.2.2.1, x7.2.2.2.2.2.2.2.2.2.1, x7.2.2.2.2.2.2.2.2.2.2.1, x7.2.2.2.2.2.2.2.2.2.2.2.1, x7.2.2.2.2.2.2.2.2.2.2.2.2.1, x7.2.2.2.2.2.2.2.2.2.2.2.2.2.1, w64 (x7.2.2.2.2.2.2.2.2.2.2.2.2.2.2 + 1)))
      else
       some (.inr (.inl (x7.1, x7.2.1, x7.2.2.1, x7.2.2.2.1, x7.2.2.2.2.1, x7.2.2.2.2.2.1, x7.2.2.2.2.2.2.1, x7.2.2.2.2.2.2.2.2.2.1, x7.2.2.2.2.2.2.2.2.2.2.1, w64 (x7.2.2.2.2.2.2.2.2.2.2.2.1 + 1))))
     ) (x4.1, x4.2.1, x4.2.2.1, x4.2.2.2.1, x4.2.2.2.2.1, x4.2.2.2.2.2.1, x4.2.2.2.2.2.2.1, x4.2.2.2.2.2.2.2.1, x4.2.2.2.2.2.2.2.2.1, x4.2.2.2.2.2.2.2.2.2.1, x4.2.2.2.2.2.2.2.2.2.2.1, x4.2.2.2.2.2.2.2.2.2.2.2.1, x4.2.2.2.2.2.2.2.2.1, (x4.2.2.2.2.2.2.2.2.1.length : Int), 0)
    ).bind fun r => some (.inr r)
   ) (x2.1, x2.2.1, x2.2.2.1, x2.2.2.2.1, x2.2.2.2.2.1, x2.2.2.2.2.2.1, x2.2.2.2.2.2.2.1, e3.cells, e3.orig, x2.2.2.2.2.2.2.2.1, x2.2.2.2.2.2.2.2.2.1, x2.2.2.2.2.2.2.2.2.2, e3.cells, (e3.cells.length : Int), 0)
  else
   some (.inr (true))
 ) (a.kind, a.n, a.step, a.text, a.list, a.columns, a.rows, a.rows, (a.rows.length : Int), 0)
def U7 : Fsp := ⟨155, [shT .val], [shF .bool], true, false, fun x => xh x⟩
def iL (a : bg) : Option (Bool) :=
 bif ((a.columns.length : Int) == 0) then
  bif (a.n == 0) then
   bif (a.step == 0) then
    bif (a.text == []) then
     (xh (bg.mk 5 a.n a.step a.text [] a.columns a.rows)).bind fun r1 =>
     some (r1)
    else
     some (false)
   else
    some (false)
  else
   some (false)
 else
 bif (a.n == 0) then
  bif (a.step == 0) then
   bif (a.text == []) then
    (xh (bg.mk 5 a.n a.step a.text [] a.columns a.rows)).bind fun r2 =>
    some (r2)
   else
    some (false)
  else
   some (false)
 else
  some (false)
def lX (a : bg) : Option (Bool) := bif (a.kind == 5) && a.list.isEmpty then iL a else none
def fG : Fsp := ⟨107, [shT .val], [shF .bool], true, false, fun x => lX x⟩
def kE (a : Str) : Option (bg × Bool) :=
 (jc a [59, 32]).bind fun r1 =>
 (idx r1 0).bind fun _ =>
 (r1[0]?).bind fun e3 =>
 (jw e3 32).bind fun r4 =>
 (eff.cutL r1 (some 1) none).bind fun r5 =>
 ah (fun (x6 : Int × Int × Int × Str × (List bg) × (List Str) × (List bQ) × Int × Int × Int × Str × (List bg) × (List Str) × (List bQ) × (List Str) × Int × Int) =>
  bif (decide (x6.2.2.2.2.2.2.2.2.2.2.2.2.2.2.2.2 < x6.2.2.2.2.2.2.2.2.2.2.2.2.2.2.2.1)) then
   (idx x6.2.2.2.2.2.2.2.2.2.2.2.2.2.2.1 x6.2.2.2.2.2.2.2.2.2.2.2.2.2.2.2.2).bind fun e7 =>
   (sF e7 (x6.2.2.2.2.2.2.2.2.2.2.2.2.1.length : Int)).bind fun r8 =>
   bif (!r8.2) then
    some (.inr (bg.mk 0 0 0 [] [] [] [], false))
   else
    (gd (x6.2.2.2.2.2.2.2.2.2.2.2.2.2.1.length + ([bQ.mk r8.1 []]).length)).bind fun _ =>
    some (.inl (x6.1, x6.2.1, x6.2.2.1, x6.2.2.2.1, x6.2.2.2.2.1, x6.2.2.2.2.2.1, x6.2.2.2.2.2.2.1, x6.2.2.2.2.2.2.2.1, x6.2.2.2.2.2.2.2.2.1, x6.2.2.2.2.2.2.2.2.2.1, x6.2.2.2.2.2.2.2.2.2.2.1, x6.2.2.2.2.2.2.2.2.2.2.2.1, x6.2.2.2.2.2.2.2.2.2.2.2.2.1, x6.2.2.2.2.2.2.2.2.2.2.2.2.2.1 ++ ([bQ.mk r8.1 []]), x6.2.2.2.2.2.2.2.2.2.2.2.2.2.2.1, x6.2.2.2.2.2.2.2.2.2.2.2.2.2.2.2.1, w64 (x6.2.2.2.2.2.2.2.2.2.2.2.2.2.2.2.2 + 1)))
  else
   (
    (lX (bg.mk x6.2.2.2.2.2.2.2.1 x6.2.2.2.2.2.2.2.2.1 x6.2.2.2.2.2.2.2.2.2.1 x6.2.2.2.2.2.2.2.2.2.2.1 x6.2.2.2.2.2.2.2.2.2.2.2.1 x6.2.2.2.2.2.2.2.2.2.2.2.2.1 x6.2.2.2.2.2.2.2.2.2.2.2.2.2.1)).bind fun r9 =>
    bif (!r9) then
     some (bg.mk 0 0 0 [] [] [] [], false)
    else
     some (bg.mk x6.2.2.2.2.2.2.2.1 x6.2.2.2.2.2.2.2.2.1 x6.2.2.2.2.2.2.2.2.2.1 x6.2.2.2.2.2.2.2.2.2.2.1 x6.2.2.2.2.2.2.2.2.2.2.2.1 x6.2.2.2.2.2.2.2.2.2.2.2.2.1 x6.2.2.2.2.2.2.2.2.2.2.2.2.2.1, true)
   ).bind fun r => some (.inr r)
 ) (0, 0, 0, [], [], [], [], 5, 0, 0, [], [], r4, [], r5, (r5.length : Int), 0)
def Px : Fsp := ⟨71, [shF .str], [shT .val, shF .bool], true, false, fun x => kE x⟩
def uI (a : Str) : Option (Int) :=
 (kE a).bind fun r1 =>
 bif r1.2 then
  some ((-1))
 else
 (jc a [59, 32]).bind fun r2 =>
 (idx r2 0).bind fun _ =>
 (r2[0]?).bind fun e4 =>
 (jw e4 32).bind fun r5 =>
 (ng r5).bind fun r6 =>
 bif (!r6) then
  some (0)
 else
 (eff.cutL r2 (some 1) none).bind fun r7 =>
 ah (fun (x8 : (List Str) × (List Str) × Int × Int) =>
  bif (decide (x8.2.2.2 < x8.2.2.1)) then
   (idx x8.2.1 x8.2.2.2).bind fun e9 =>
   (sF e9 (x8.1.length : Int)).bind fun r10 =>
   bif (!r10.2) then
    some (.inr (w64 (x8.2.2.2 + 1)))
   else
    bif (decide (x8.2.2.2 >= 12)) then
     some (.inr (w64 (x8.2.2.2 + 1)))
    else
     some (.inl (x8.1, x8.2.1, x8.2.2.1, w64 (x8.2.2.2 + 1)))
  else
   some (.inr ((-1)))
 ) (r5, r7, (r7.length : Int), 0)
def PK : Fsp := ⟨72, [shF .str], [shF .int], true, false, fun x => uI x⟩
def BX (a : bQ) : Option (bQ) :=
 (gd (0 + a.cells.length)).bind fun _ =>
 (gd (0 + a.orig.length)).bind fun _ =>
 some (bQ.mk ([] ++ a.cells) ([] ++ a.orig))
def Va : Fsp := ⟨159, [shT .row], [shT .row], true, false, fun x => BX x⟩
def xw (riCopyValue : bg -> Option (bg)) (riCopyValues : (List bg) -> Option ((List bg))) (a : bg) : Option (bg) :=
 (riCopyValues a.list).bind fun r1 =>
 (gd (0 + a.columns.length)).bind fun _ =>
 ah (fun (x2 : Int × Int × Int × Str × (List bg) × (List Str) × (List bQ) × Int × Int × Int × Str × (List bg) × (List Str) × (List bQ) × (List bQ) × Int × Int) =>
  bif (decide (x2.2.2.2.2.2.2.2.2.2.2.2.2.2.2.2.2 < x2.2.2.2.2.2.2.2.2.2.2.2.2.2.2.2.1)) then
   (idx x2.2.2.2.2.2.2.2.2.2.2.2.2.2.2.1 x2.2.2.2.2.2.2.2.2.2.2.2.2.2.2.2.2).bind fun e3 =>
   (BX e3).bind fun r4 =>
   (gd (x2.2.2.2.2.2.2.2.2.2.2.2.2.2.1.length + [r4].length)).bind fun _ =>
   some (.inl (x2.1, x2.2.1, x2.2.2.1, x2.2.2.2.1, x2.2.2.2.2.1, x2.2.2.2.2.2.1, x2.2.2.2.2.2.2.1, x2.2.2.2.2.2.2.2.1, x2.2.2.2.2.2.2.2.2.1, x2.2.2.2.2.2.2.2.2.2.1, x2.2.2.2.2.2.2.2.2.2.2.1, x2.2.2.2.2.2.2.2.2.2.2.2.1, x2.2.2.2.2.2.2.2.2.2.2.2.2.1, x2.2.2.2.2.2.2.2.2.2.2.2.2.2.1 ++ [r4], x2.2.2.2.2.2.2.2.2.2.2.2.2.2.2.1, x2.2.2.2.2.2.2.2.2.2.2.2.2.2.2.2.1, w64 (x2.2.2.2.2.2.2.2.2.2.2.2.2.2.2.2.2 + 1)))
  else
   some (.inr (bg.mk x2.2.2.2.2.2.2.2.1 x2.2.2.2.2.2.2.2.2.1 x2.2.2.2.2.2.2.2.2.2.1 x2.2.2.2.2.2.2.2.2.2.2.1 x2.2.2.2.2.2.2.2.2.2.2.2.1 x2.2.2.2.2.2.2.2.2.2.2.2.2.1 x2.2.2.2.2.2.2.2.2.2.2.2.2.2.1))
 ) (0, 0, 0, [], [], [], [], a.kind, a.n, a.step, a.text, r1, [] ++ a.columns, [], a.rows, (a.rows.length : Int), 0)
def uJ (riCopyValue : bg -> Option (bg)) (riCopyValues : (List bg) -> Option ((List bg))) (a : List bg) : Option ((List bg)) :=
 ah (fun (x1 : (List bg) × (List bg) × Int × Int) =>
  bif (decide (x1.2.2.2 < x1.2.2.1)) then
   (idx x1.2.1 x1.2.2.2).bind fun e2 =>
   (riCopyValue (gG e2)).bind fun r3 =>
   (gd (x1.1.length + [gG r3].length)).bind fun _ =>
   some (.inl (x1.1 ++ [gG r3], x1.2.1, x1.2.2.1, w64 (x1.2.2.2 + 1)))
  else
   some (.inr (x1.1))
 ) ([], a, (a.length : Int), 0)
def dN : Nat -> (bg -> Option (bg)) × ((List bg) -> Option ((List bg)))
 | 0 => (fun _ => none, fun _ => none)
 | n + 1 => (xw (dN n).1 (dN n).2, uJ (dN n).1 (dN n).2)
def uK (a : bg) : Option (bg) := (dN (siz a + 1)).1 a
def PL : Fsp := ⟨109, [shT .val], [shT .val], true, false, fun x => uK x⟩
def yZ (n : Nat) : Fsp := ⟨109, [shT .val], [shT .val], true, false, fun x => (dN n).1 x⟩
def Sm (a : List bg) : Option ((List bg)) := (dN (siz a + 1)).2 a
def LD : Fsp := ⟨158, [slF .val], [slF .val], true, false, fun x => Sm x⟩
def xu (n : Nat) : Fsp := ⟨158, [slF .val], [slF .val], true, false, fun x => (dN n).2 x⟩
def nX (a : Int) (b : bg) : Option (bg) :=
 bif (b.kind != 5) then
  (jA 4).bind fun r1 =>
  some (gG r1)
 else
 (lX (gG b)).bind fun r2 =>
 bif (!r2) then
  (jA 4).bind fun r3 =>
  some (gG r3)
 else
 bif (decide (a < 0)) then
  (jA 4).bind fun r4 =>
  some (gG r4)
 else
  (uK (gG b)).bind fun r5 =>
  ah (fun (x6 : Int × Int × Int × Int × Str × (List bg) × (List Str) × (List bQ) × Int × Int × Int × Str × (List bg) × (List Str) × (List bQ) × Int × Int) =>
   bif (decide (x6.2.2.2.2.2.2.2.2.2.2.2.2.2.2.2.2 < x6.2.2.2.2.2.2.2.2.2.2.2.2.2.2.2.1)) then
    (idx x6.2.2.2.2.2.2.2.2.2.2.2.2.2.2.1 x6.2.2.2.2.2.2.2.2.2.2.2.2.2.2.2.2).bind fun _ =>
    (x6.2.2.2.2.2.2.2.2.2.2.2.2.2.2.1[x6.2.2.2.2.2.2.2.2.2.2.2.2.2.2.2.2.toNat]?).bind fun e8 =>
    some (.inl (x6.1, x6.2.1, x6.2.2.1, x6.2.2.2.1, x6.2.2.2.2.1, x6.2.2.2.2.2.1, x6.2.2.2.2.2.2.1, x6.2.2.2.2.2.2.2.1, x6.2.2.2.2.2.2.2.2.1, x6.2.2.2.2.2.2.2.2.2.1, x6.2.2.2.2.2.2.2.2.2.2.1, x6.2.2.2.2.2.2.2.2.2.2.2.1, x6.2.2.2.2.2.2.2.2.2.2.2.2.1, x6.2.2.2.2.2.2.2.2.2.2.2.2.2.1, x6.2.2.2.2.2.2.2.2.2.2.2.2.2.2.1.set x6.2.2.2.2.2.2.2.2.2.2.2.2.2.2.2.2.toNat (bQ.mk e8.cells [gy.mk x6.1 x6.2.2.2.2.2.2.2.2.2.2.2.2.2.2.2.2]), x6.2.2.2.2.2.2.2.2.2.2.2.2.2.2.2.1, w64 (x6.2.2.2.2.2.2.2.2.2.2.2.2.2.2.2.2 + 1)))
   else
    some (.inr (bg.mk x6.2.2.2.2.2.2.2.2.1 x6.2.2.2.2.2.2.2.2.2.1 x6.2.2.2.2.2.2.2.2.2.2.1 x6.2.2.2.2.2.2.2.2.2.2.2.1 x6.2.2.2.2.2.2.2.2.2.2.2.2.1 x6.2.2.2.2.2.2.2.2.2.2.2.2.2.1 x6.2.2.2.2.2.2.2.2.2.2.2.2.2.2.1))
  ) (a, 0, 0, 0, [], [], [], [], r5.kind, r5.n, r5.step, r5.text, r5.list, r5.columns, r5.rows, (r5.rows.length : Int), 0)
def Jo : Fsp := ⟨73, [shF .int, shT .val], [shT .val], true, false, fun x => nX x.1 x.2⟩
def ja (a : aV) : Option (aF) :=
 (dV a).bind fun r1 =>
 bif (!r1) then
  some (aF.mk 0 [] (af.mk 0 0 [] []) (bg.mk 0 0 0 [] [] [] []) 0)
 else
 bif (a.kind == 1) then
  some (aF.mk 1 [] (af.mk 0 0 [] []) (bg.mk 0 0 0 [] [] [] []) 0)
 else
 bif (a.kind == 3) then
  (uH a.n).bind fun r2 =>
  some (aF.mk 3 a.name (af.mk 0 0 [] []) (gG r2) 0)
 else
 bif (a.kind == 2) then
  (pG a.code).bind fun r3 =>
  bif (decide (r3.2 >= 0)) then
   (jA 8).bind fun r4 =>
   some (aF.mk 4 a.name (af.mk 0 0 [] []) (gG r4) r3.2)
  else
   some (aF.mk 2 a.name (aj r3.1) (bg.mk 0 0 0 [] [] [] []) 0)
 else
  (kE a.code).bind fun r5 =>
  bif (!r5.2) then
   (jA 8).bind fun r6 =>
   (uI a.code).bind fun r7 =>
   some (aF.mk 4 a.name (af.mk 0 0 [] []) (gG r6) r7)
  else
   (nX a.id (gG r5.1)).bind fun r8 =>
   some (aF.mk 3 a.name (af.mk 0 0 [] []) (gG r8) 0)
def JD : Fsp := ⟨42, [shT .cell], [shT .part], false, false, fun x => ja x⟩
def fP (a : aW) : Option ((List aF)) :=
 (fQ a).bind fun r1 =>
 bif (!r1) then
  some ([])
 else
  ah (fun (x2 : (List aF) × (List aV) × Int × Int) =>
   bif (decide (x2.2.2.2 < x2.2.2.1)) then
    (idx x2.2.1 x2.2.2.2).bind fun e3 =>
    (ja e3).bind fun r4 =>
    (gd (x2.1.length + [kR r4].length)).bind fun _ =>
    some (.inl (x2.1 ++ [kR r4], x2.2.1, x2.2.2.1, w64 (x2.2.2.2 + 1)))
   else
    some (.inr (x2.1))
  ) ([], a.cells, (a.cells.length : Int), 0)
def LG : Fsp := ⟨22, [shT .notebook], [slF .part], false, true, fun x => fP x⟩
def oL (a : List aF) (b : Str) : Option ((List Int)) :=
 ah (fun (x1 : Str × (List Int) × (List aF) × Int × Int) =>
  bif (decide (x1.2.2.2.2 < x1.2.2.2.1)) then
   (idx x1.2.2.1 x1.2.2.2.2).bind fun e2 =>
   bif (e2.kind != 1) then
    bif (e2.name == x1.1) then
     (gd (x1.2.1.length + [x1.2.2.2.2].length)).bind fun _ =>
     some (.inl (x1.1, x1.2.1 ++ [x1.2.2.2.2], x1.2.2.1, x1.2.2.2.1, w64 (x1.2.2.2.2 + 1)))
    else
     some (.inl (x1.1, x1.2.1, x1.2.2.1, x1.2.2.2.1, w64 (x1.2.2.2.2 + 1)))
   else
    some (.inl (x1.1, x1.2.1, x1.2.2.1, x1.2.2.2.1, w64 (x1.2.2.2.2 + 1)))
  else
   some (.inr (x1.2.1))
 ) (b, [], a, (a.length : Int), 0)
def Sl : Fsp := ⟨77, [slF .part, shF .str], [slF .int], true, false, fun x => oL x.1 x.2⟩
def kD (a : List Str) : Option ((List Str)) :=
 ah (fun (x1 : (List Str) × (List Str) × (List Str) × Int × Int) =>
  bif (decide (x1.2.2.2.2 < x1.2.2.2.1)) then
   (idx x1.2.2.1 x1.2.2.2.2).bind fun e2 =>
   (sD x1.1 e2).bind fun r3 =>
   bif (r3 == x1.2.2.2.2) then
    (gd (x1.2.1.length + ([e2] : List Str).length)).bind fun _ =>
    some (.inl (x1.1, x1.2.1 ++ ([e2] : List Str), x1.2.2.1, x1.2.2.2.1, w64 (x1.2.2.2.2 + 1)))
   else
    some (.inl (x1.1, x1.2.1, x1.2.2.1, x1.2.2.2.1, w64 (x1.2.2.2.2 + 1)))
  else
   (
    (gm x1.2.1).bind fun y4 =>
    some (y4)
   ).bind fun r => some (.inr r)
 ) (a, [], a, (a.length : Int), 0)
def Pm : Fsp := ⟨78, [slF .str], [slF .str], true, false, fun x => kD x⟩
def Jt (a : List aF) (b : Bool) : Option ((List Str)) :=
 ah (fun (x1 : (List aF) × Bool × (List Str) × (List aF) × Int × Int) =>
  bif (decide (x1.2.2.2.2.2 < x1.2.2.2.2.1)) then
   (idx x1.2.2.2.1 x1.2.2.2.2.2).bind fun e2 =>
   bif (e2.kind != 1) then
    (oL x1.1 e2.name).bind fun r3 =>
    bif ((decide ((r3.length : Int) > 1)) == x1.2.1) then
     (gd (x1.2.2.1.length + ([e2.name] : List Str).length)).bind fun _ =>
     some (.inl (x1.1, x1.2.1, x1.2.2.1 ++ ([e2.name] : List Str), x1.2.2.2.1, x1.2.2.2.2.1, w64 (x1.2.2.2.2.2 + 1)))
    else
     some (.inl (x1.1, x1.2.1, x1.2.2.1, x1.2.2.2.1, x1.2.2.2.2.1, w64 (x1.2.2.2.2.2 + 1)))
   else
    some (.inl (x1.1, x1.2.1, x1.2.2.1, x1.2.2.2.1, x1.2.2.2.2.1, w64 (x1.2.2.2.2.2 + 1)))
  else
   (
    (kD x1.2.2.1).bind fun r4 =>
    some (r4)
   ).bind fun r => some (.inr r)
 ) (a, b, [], a, (a.length : Int), 0)
def PD : Fsp := ⟨45, [slF .part, shF .bool], [slF .str], true, false, fun x => Jt x.1 x.2⟩
def vz (a : List aF) : Option ((List Str)) :=
 (Jt a true).bind fun r1 =>
 some (r1)
def BU : Fsp := ⟨24, [slF .part], [slF .str], true, false, fun x => vz x⟩
def BZ (a : aW) : Option ((List Int)) :=
 (fP a).bind fun r1 =>
 ah (fun (x2 : (List aV) × (List Int) × (List aF) × Int × Int) =>
  bif (decide (x2.2.2.2.2 < x2.2.2.2.1)) then
   (idx x2.2.2.1 x2.2.2.2.2).bind fun _ =>
   (x2.2.2.1[x2.2.2.2.2.toNat]?).bind fun e4 =>
   bif (e4.kind == 4) then
    (idx x2.1 x2.2.2.2.2).bind fun e5 =>
    (gd (x2.2.1.length + [e5.id].length)).bind fun _ =>
    some (.inl (x2.1, x2.2.1 ++ [e5.id], x2.2.2.1, x2.2.2.2.1, w64 (x2.2.2.2.2 + 1)))
   else
    some (.inl (x2.1, x2.2.1, x2.2.2.1, x2.2.2.2.1, w64 (x2.2.2.2.2 + 1)))
  else
   some (.inr (x2.2.1))
 ) (a.cells, [], r1, (r1.length : Int), 0)
def JE : Fsp := ⟨25, [shT .notebook], [slF .int], true, false, fun x => BZ x⟩
def og (a : List Int) (b : Int) : Option (Bool) :=
 ah (fun (x1 : Int × (List Int) × Int × Int) =>
  bif (decide (x1.2.2.2 < x1.2.2.1)) then
   (idx x1.2.1 x1.2.2.2).bind fun e2 =>
   bif (e2 == x1.1) then
    some (.inr (true))
   else
    some (.inl (x1.1, x1.2.1, x1.2.2.1, w64 (x1.2.2.2 + 1)))
  else
   some (.inr (false))
 ) (b, a, (a.length : Int), 0)
def X4 : Fsp := ⟨51, [slF .int, shF .int], [shF .bool], true, false, fun x => og x.1 x.2⟩
def lM (a : af) : Option (List Str) := (jB (siz a + 1) a []).bind fun es => (gd es.length).bind fun _ => kD (es.map (·.1))
def PG : Fsp := ⟨164, [shT .expr], [slF .str], true, false, fun x => lM x⟩
def BN (a : aF) : Option ((List Str)) :=
 bif (a.kind != 2) then
  some ([])
 else
  (lM (aj a.expr)).bind fun r1 =>
  some (r1)
def XR : Fsp := ⟨116, [shT .part], [slF .str], true, false, fun x => BN x⟩
def BO (a : List aF) (b : Str) : Option (Int) :=
 (oL a b).bind fun r1 =>
 bif ((r1.length : Int) == 0) then
  some ((-1))
 else
  bif ((r1.length : Int) == 1) then
   (idx r1 0).bind fun _ =>
   (r1[0]?).bind fun e3 =>
   some (e3)
  else
   some ((-2))
def U4 : Fsp := ⟨117, [slF .part, shF .str], [shF .int], true, false, fun x => BO x.1 x.2⟩
def uF (a : List Int) : Option (List Int) := DF a
def XY : Fsp := ⟨118, [slF .int], [slF .int], true, false, fun x => uF x⟩
def fA (a : List aF) (b : Int) : Option ((List Int)) :=
 bif (decide (b < 0)) then
  some ([])
 else
 bif (decide (b >= (a.length : Int))) then
  some ([])
 else
 (idx a b).bind fun e1 =>
 (BN (kR e1)).bind fun r2 =>
 ah (fun (x3 : (List aF) × (List Int) × (List Str) × Int × Int) =>
  bif (decide (x3.2.2.2.2 < x3.2.2.2.1)) then
   (idx x3.2.2.1 x3.2.2.2.2).bind fun _ =>
   (x3.2.2.1[x3.2.2.2.2.toNat]?).bind fun e5 =>
   (BO x3.1 e5).bind fun r6 =>
   bif (decide (r6 >= 0)) then
    (gd (x3.2.1.length + [r6].length)).bind fun _ =>
    some (.inl (x3.1, x3.2.1 ++ [r6], x3.2.2.1, x3.2.2.2.1, w64 (x3.2.2.2.2 + 1)))
   else
    some (.inl (x3.1, x3.2.1, x3.2.2.1, x3.2.2.2.1, w64 (x3.2.2.2.2 + 1)))
  else
   (
    (uF x3.2.1).bind fun r7 =>
    some (r7)
   ).bind fun r => some (.inr r)
 ) (a, [], r2, (r2.length : Int), 0)
def LC : Fsp := ⟨81, [slF .part, shF .int], [slF .int], true, false, fun x => fA x.1 x.2⟩
def sH (a : List aF) (b : Int) : Option (List Int) := (fA a b).bind fun r => (ah (kQ (fA a)) ([], r)).bind fun out => uF out
def Vb : Fsp := ⟨114, [slF .part, shF .int], [slF .int], true, false, fun x => sH x.1 x.2⟩
def rX (a : List aF) (b : Int) : Option (Bool) :=
 (sH a b).bind fun r1 =>
 (og r1 b).bind fun r2 =>
 some (r2)
def U6 : Fsp := ⟨79, [slF .part, shF .int], [shF .bool], true, false, fun x => rX x.1 x.2⟩
def ZQ (a : List aF) (b : Int) : Option ((List Int)) :=
 ah (fun (x1 : (List aF) × Int × (List Int) × Int × Int) =>
  bif (decide (x1.2.2.2.2 < x1.2.2.2.1)) then
   (fA x1.1 x1.2.2.2.2).bind fun r2 =>
   (og r2 x1.2.1).bind fun r3 =>
   bif r3 then
    (gd (x1.2.2.1.length + [x1.2.2.2.2].length)).bind fun _ =>
    some (.inl (x1.1, x1.2.1, x1.2.2.1 ++ [x1.2.2.2.2], x1.2.2.2.1, w64 (x1.2.2.2.2 + 1)))
   else
    some (.inl (x1.1, x1.2.1, x1.2.2.1, x1.2.2.2.1, w64 (x1.2.2.2.2 + 1)))
  else
   some (.inr (x1.2.2.1))
 ) (a, b, [], (a.length : Int), 0)
def ZP : Fsp := ⟨115, [slF .part, shF .int], [slF .int], true, false, fun x => ZQ x.1 x.2⟩
def RS (a : List aF) (b : Int) : Option ((List Int)) :=
 ah (fun (x1 : (List aF) × Int × (List Int) × Int × Int) =>
  bif (decide (x1.2.2.2.2 < x1.2.2.2.1)) then
   (gd (x1.2.2.1.length + [-1].length)).bind fun _ =>
   some (.inl (x1.1, x1.2.1, x1.2.2.1 ++ [-1], x1.2.2.2.1, w64 (x1.2.2.2.2 + 1)))
  else
  (
   ah (fun (x2 : (List aF) × (List Int) × (List Int) × Int) =>
    bif (decide ((x2.2.2.1.length : Int) > 0)) then
     ah (fun (x3 : (List aF) × (List Int) × Int × (List Int) × (List Int) × Int × Int) =>
      bif (decide (x3.2.2.2.2.2.2 < x3.2.2.2.2.2.1)) then
       (idx x3.2.2.2.2.1 x3.2.2.2.2.2.2).bind fun _ =>
       (x3.2.2.2.2.1[x3.2.2.2.2.2.2.toNat]?).bind fun e5 =>
       (ZQ x3.1 e5).bind fun r6 =>
       ah (fun (x7 : (List aF) × (List Int) × Int × (List Int) × (List Int) × Int × Int × (List Int) × Int × Int) =>
        bif (decide (x7.2.2.2.2.2.2.2.2.2 < x7.2.2.2.2.2.2.2.2.1)) then
         (idx x7.2.2.2.2.2.2.2.1 x7.2.2.2.2.2.2.2.2.2).bind fun _ =>
         (x7.2.2.2.2.2.2.2.1[x7.2.2.2.2.2.2.2.2.2.toNat]?).bind fun e9 =>
         (idx x7.2.1 e9).bind fun _ =>
         (x7.2.1[e9.toNat]?).bind fun e11 =>
         bif (decide (e11 < 0)) then
          (idx x7.2.1 e9).bind fun _ =>
          (x7.2.1[e9.toNat]?).bind fun e13 =>
          (gd (x7.2.2.2.1.length + [e9].length)).bind fun _ =>
          some (.inl (x7.1, x7.2.1.set e9.toNat x7.2.2.1, x7.2.2.1, x7.2.2.2.1 ++ [e9], x7.2.2.2.2.1, x7.2.2.2.2.2.1, x7.2.2.2.2.2.2.1, x7.2.2.2.2.2.2.2.1, x7.2.2.2.2.2.2.2.2.1, w64 (x7.2.2.2.2.2.2.2.2.2 + 1)))
         else
          some (.inl (x7.1, x7.2.1, x7.2.2.1, x7.2.2.2.1, x7.2.2.2.2.1, x7.2.2.2.2.2.1, x7.2.2.2.2.2.2.1, x7.2.2.2.2.2.2.2.1, x7.2.2.2.2.2.2.2.2.1, w64 (x7.2.2.2.2.2.2.2.2.2 + 1)))
        else
         some (.inr (.inl (x7.1, x7.2.1, x7.2.2.1, x7.2.2.2.1, x7.2.2.2.2.1, x7.2.2.2.2.2.1, w64 (x7.2.2.2.2.2.2.1 + 1))))
       ) (x3.1, x3.2.1, x3.2.2.1, x3.2.2.2.1, x3.2.2.2.2.1, x3.2.2.2.2.2.1, x3.2.2.2.2.2.2, r6, (r6.length : Int), 0)
      else
       some (.inr (.inl (x3.1, x3.2.1, x3.2.2.2.1, w64 (x3.2.2.1 + 1))))
     ) (x2.1, x2.2.1, x2.2.2.2, [], x2.2.2.1, (x2.2.2.1.length : Int), 0)
    else
     some (.inr (x2.2.1))
   ) (x1.1, x1.2.2.1, [x1.2.1], 1)
  ).bind fun r => some (.inr r)
 ) (a, b, [], (a.length : Int), 0)
def U2 : Fsp := ⟨80, [slF .part, shF .int], [slF .int], true, false, fun x => RS x.1 x.2⟩
def dI (a : List aF) (b : Int) : Option ((List Int)) :=
 (rX a b).bind fun r1 =>
 bif (!r1) then
  some ([])
 else
 (RS a b).bind fun r2 =>
 (idx r2 b).bind fun _ =>
 (r2[b.toNat]?).bind fun e4 =>
 ah (fun (x5 : (List aF) × Int × (List Int) × (List Int) × Int) =>
  bif (decide (x5.2.2.2.2 > 1)) then
   (idx x5.2.2.2.1 (w64 ((x5.2.2.2.1.length : Int) - 1))).bind fun _ =>
   (x5.2.2.2.1[(w64 ((x5.2.2.2.1.length : Int) - 1)).toNat]?).bind fun e7 =>
   (fA x5.1 e7).bind fun r8 =>
   ah (fun (x9 : (List aF) × Int × (List Int) × (List Int) × Int × (List Int) × Int × Int) =>
    bif (decide (x9.2.2.2.2.2.2.2 < x9.2.2.2.2.2.2.1)) then
     (idx x9.2.2.2.2.2.1 x9.2.2.2.2.2.2.2).bind fun _ =>
     (x9.2.2.2.2.2.1[x9.2.2.2.2.2.2.2.toNat]?).bind fun e11 =>
     bif (e11 != x9.2.1) then
      (idx x9.2.2.1 e11).bind fun _ =>
      (x9.2.2.1[e11.toNat]?).bind fun e13 =>
      bif (e13 == (w64 (x9.2.2.2.2.1 - 1))) then
       (gd (x9.2.2.2.1.length + [e11].length)).bind fun _ =>
       some (.inr (.inl (x9.1, x9.2.1, x9.2.2.1, x9.2.2.2.1 ++ [e11], w64 (x9.2.2.2.2.1 - 1))))
      else
       some (.inl (x9.1, x9.2.1, x9.2.2.1, x9.2.2.2.1, x9.2.2.2.2.1, x9.2.2.2.2.2.1, x9.2.2.2.2.2.2.1, w64 (x9.2.2.2.2.2.2.2 + 1)))
     else
      some (.inl (x9.1, x9.2.1, x9.2.2.1, x9.2.2.2.1, x9.2.2.2.2.1, x9.2.2.2.2.2.1, x9.2.2.2.2.2.2.1, w64 (x9.2.2.2.2.2.2.2 + 1)))
    else
     some (.inr (.inl (x9.1, x9.2.1, x9.2.2.1, x9.2.2.2.1, w64 (x9.2.2.2.2.1 - 1))))
   ) (x5.1, x5.2.1, x5.2.2.1, x5.2.2.2.1, x5.2.2.2.2, r8, (r8.length : Int), 0)
  else
   some (.inr (x5.2.2.2.1))
 ) (a, b, r2, [b], e4)
def FI : Fsp := ⟨46, [slF .part, shF .int], [slF .int], true, false, fun x => dI x.1 x.2⟩
def kT (a : List aF) : Option (List Int) := (gd a.length).bind fun _ => uP (dI a) a.length 0 []
def DN : Fsp := ⟨26, [slF .part], [slF .int], true, false, fun x => kT x⟩
def yX (a : aW) : Option (Bool) :=
 (fP a).bind fun r1 =>
 (fQ a).bind fun r2 =>
 bif r2 then
  (vz r1).bind fun r3 =>
  bif ((r3.length : Int) == 0) then
   (BZ a).bind fun r4 =>
   bif ((r4.length : Int) == 0) then
    (kT r1).bind fun r5 =>
    some (((r5.length : Int) == 0))
   else
    some (false)
  else
   some (false)
 else
  some (false)
def FD : Fsp := ⟨8, [shT .notebook], [shF .bool], true, false, fun x => yX x⟩
def PZ (a : aV) (b : aV) : Option (Bool) :=
 bif (a.id != b.id) then
  some (false)
 else
 bif (a.version != b.version) then
  some (false)
 else
 bif (a.kind != b.kind) then
  some (false)
 else
  bif (!(a.name == b.name)) then
   some (false)
  else
   bif (!(a.code == b.code)) then
    some (false)
   else
    bif (a.n != b.n) then
     some (false)
    else
     some (true)
def aai : Fsp := ⟨47, [shT .cell, shT .cell], [shF .bool], true, false, fun x => PZ x.1 x.2⟩
def PY (a : List aV) (b : List aV) : Option (Bool) :=
 bif ((a.length : Int) != (b.length : Int)) then
  some (false)
 else
 ah (fun (x1 : (List aV) × (List aV) × Int) =>
  bif (decide (x1.2.2 < (x1.1.length : Int))) then
   (idx x1.1 x1.2.2).bind fun e2 =>
   (idx x1.2.1 x1.2.2).bind fun e3 =>
   (PZ e2 e3).bind fun r4 =>
   bif (!r4) then
    some (.inr (false))
   else
    some (.inl (x1.1, x1.2.1, w64 (x1.2.2 + 1)))
  else
   some (.inr (true))
 ) (a, b, 0)
def Yc : Fsp := ⟨27, [slF .cell, slF .cell], [shF .bool], true, false, fun x => PY x.1 x.2⟩
def lN (a : aW) (b : aW) : Option (Bool) :=
 (PY a.cells b.cells).bind fun r1 =>
 bif (!r1) then
  some (false)
 else
  some (true)
def PX : Fsp := ⟨9, [shT .notebook, shT .notebook], [shF .bool], true, false, fun x => lN x.1 x.2⟩
def FnExactIsExportable (a : aW) : Option (Bool) :=
 (oU a 1048576).bind fun r1 =>
 bif (decide (r1 < 0)) then
  some (true)
 else
 (iw a).bind fun r2 =>
 (yN r2).bind fun r3 =>
 (iw a).bind fun r4 =>
 (yX r4).bind fun r5 =>
 bif (!(r5 == r3)) then
  some (false)
 else
  (iw a).bind fun r6 =>
  (lN r4 r6).bind fun r7 =>
  bif (!r7) then
   some (false)
  else
   some (true)
def vM : Fsp := ⟨3, [shT .notebook], [shF .bool], true, false, fun x => FnExactIsExportable x⟩
def xR (a : List aF) : Option ((List (List Int))) :=
 ah (fun (x1 : (List aF) × (List (List Int)) × Int) =>
  bif (decide (x1.2.2 < (x1.1.length : Int))) then
   (kG x1.1 x1.2.2).bind fun r2 =>
   (gd (x1.2.1.length + [r2].length)).bind fun _ =>
   some (.inl (x1.1, x1.2.1 ++ [r2], w64 (x1.2.2 + 1)))
  else
   some (.inr (x1.2.1))
 ) (a, [], 0)
def QG : Fsp := ⟨48, [slF .part], [⟨false, .list (.list (.base .int))⟩], true, false, fun x => xR x⟩
def nP (a : List aF) (b : Int) : Option (Bool) :=
 (qg b 0 (w64 ((a.length : Int) - 1))).bind fun r1 =>
 bif r1 then
  (idx a b).bind fun e2 =>
  bif (e2.kind != 1) then
   (idx a b).bind fun e3 =>
   (wu a e3.name).bind fun r4 =>
   some ((r4 == (-2)))
  else
   some (false)
 else
  some (false)
def Ia : Fsp := ⟨83, [slF .part, shF .int], [shF .bool], true, false, fun x => nP x.1 x.2⟩
def oG (a : List Int) (b : List Int) (c : List Bool) : Option (Bool) :=
 ah (fun (x1 : (List Int) × (List Int) × (List Bool) × Int) =>
  bif (decide (x1.2.2.2 < (x1.2.1.length : Int))) then
   (idx x1.2.1 x1.2.2.2).bind fun e2 =>
   (idx x1.2.2.1 e2).bind fun e3 =>
   bif e3 then
    (idx x1.2.1 x1.2.2.2).bind fun e4 =>
    (dX x1.1 e4).bind fun r5 =>
    bif (!r5) then
     some (.inr (false))
    else
     some (.inl (x1.1, x1.2.1, x1.2.2.1, w64 (x1.2.2.2 + 1)))
   else
    some (.inl (x1.1, x1.2.1, x1.2.2.1, w64 (x1.2.2.2 + 1)))
  else
   some (.inr (true))
 ) (a, b, c, 0)
def QE : Fsp := ⟨84, [slF .int, slF .int, slF .bool], [shF .bool], true, false, fun x => oG x.1 x.2.1 x.2.2⟩
def xQ (a : List aF) (b : List (List Int)) (c : List Bool) : Option ((List Int)) :=
 (mk (a.length : Int)).bind fun m1 =>
 ah (fun (x2 : (List aF) × (List (List Int)) × (List Bool) × (List Bool) × Int × Int) =>
  bif (decide (x2.2.2.2.2.2 < (x2.1.length : Int))) then
   (idx x2.2.2.1 x2.2.2.2.2.2).bind fun e3 =>
   bif (!e3) then
    (nP x2.1 x2.2.2.2.2.2).bind fun r4 =>
    bif (!r4) then
     (idx x2.1 x2.2.2.2.2.2).bind fun e5 =>
     bif (e5.kind == 2) then
      (idx x2.2.2.2.1 x2.2.2.2.2.2).bind fun _ =>
      (x2.2.2.2.1[x2.2.2.2.2.2.toNat]?).bind fun e7 =>
      (idx (x2.2.2.2.1.set x2.2.2.2.2.2.toNat true) x2.2.2.2.2.2).bind fun _ =>
      ((x2.2.2.2.1.set x2.2.2.2.2.2.toNat true)[x2.2.2.2.2.2.toNat]?).bind fun e9 =>
      bif e9 then
       some (.inl (x2.1, x2.2.1, x2.2.2.1, x2.2.2.2.1.set x2.2.2.2.2.2.toNat true, w64 (x2.2.2.2.2.1 + 1), w64 (x2.2.2.2.2.2 + 1)))
      else
       some (.inl (x2.1, x2.2.1, x2.2.2.1, x2.2.2.2.1.set x2.2.2.2.2.2.toNat true, x2.2.2.2.2.1, w64 (x2.2.2.2.2.2 + 1)))
     else
     (idx x2.1 x2.2.2.2.2.2).bind fun e10 =>
     (idx x2.2.2.2.1 x2.2.2.2.2.2).bind fun _ =>
     (x2.2.2.2.1[x2.2.2.2.2.2.toNat]?).bind fun e12 =>
     (idx (x2.2.2.2.1.set x2.2.2.2.2.2.toNat (e10.kind == 3)) x2.2.2.2.2.2).bind fun _ =>
     ((x2.2.2.2.1.set x2.2.2.2.2.2.toNat (e10.kind == 3))[x2.2.2.2.2.2.toNat]?).bind fun e14 =>
     bif e14 then
      some (.inl (x2.1, x2.2.1, x2.2.2.1, x2.2.2.2.1.set x2.2.2.2.2.2.toNat (e10.kind == 3), w64 (x2.2.2.2.2.1 + 1), w64 (x2.2.2.2.2.2 + 1)))
     else
      some (.inl (x2.1, x2.2.1, x2.2.2.1, x2.2.2.2.1.set x2.2.2.2.2.2.toNat (e10.kind == 3), x2.2.2.2.2.1, w64 (x2.2.2.2.2.2 + 1)))
    else
     (idx x2.2.2.2.1 x2.2.2.2.2.2).bind fun _ =>
     (x2.2.2.2.1[x2.2.2.2.2.2.toNat]?).bind fun e16 =>
     (idx (x2.2.2.2.1.set x2.2.2.2.2.2.toNat false) x2.2.2.2.2.2).bind fun _ =>
     ((x2.2.2.2.1.set x2.2.2.2.2.2.toNat false)[x2.2.2.2.2.2.toNat]?).bind fun e18 =>
     bif e18 then
      some (.inl (x2.1, x2.2.1, x2.2.2.1, x2.2.2.2.1.set x2.2.2.2.2.2.toNat false, w64 (x2.2.2.2.2.1 + 1), w64 (x2.2.2.2.2.2 + 1)))
     else
      some (.inl (x2.1, x2.2.1, x2.2.2.1, x2.2.2.2.1.set x2.2.2.2.2.2.toNat false, x2.2.2.2.2.1, w64 (x2.2.2.2.2.2 + 1)))
   else
    (idx x2.2.2.2.1 x2.2.2.2.2.2).bind fun _ =>
    (x2.2.2.2.1[x2.2.2.2.2.2.toNat]?).bind fun e20 =>
    (idx (x2.2.2.2.1.set x2.2.2.2.2.2.toNat false) x2.2.2.2.2.2).bind fun _ =>
    ((x2.2.2.2.1.set x2.2.2.2.2.2.toNat false)[x2.2.2.2.2.2.toNat]?).bind fun e22 =>
    bif e22 then
     some (.inl (x2.1, x2.2.1, x2.2.2.1, x2.2.2.2.1.set x2.2.2.2.2.2.toNat false, w64 (x2.2.2.2.2.1 + 1), w64 (x2.2.2.2.2.2 + 1)))
    else
     some (.inl (x2.1, x2.2.1, x2.2.2.1, x2.2.2.2.1.set x2.2.2.2.2.2.toNat false, x2.2.2.2.2.1, w64 (x2.2.2.2.2.2 + 1)))
  else
  (
   ah (fun (x23 : (List aF) × (List (List Int)) × (List Bool) × Int × (List Int)) =>
    bif (decide ((x23.2.2.2.2.length : Int) < x23.2.2.2.1)) then
     ah (fun (x24 : (List aF) × (List (List Int)) × (List Bool) × Int × (List Int) × Int) =>
      bif (decide (x24.2.2.2.2.2 < (x24.1.length : Int))) then
       (idx x24.2.2.1 x24.2.2.2.2.2).bind fun _ =>
       (x24.2.2.1[x24.2.2.2.2.2.toNat]?).bind fun e26 =>
       bif e26 then
        (dX x24.2.2.2.2.1 x24.2.2.2.2.2).bind fun r27 =>
        bif (!r27) then
         (idx x24.2.1 x24.2.2.2.2.2).bind fun e28 =>
         (oG x24.2.2.2.2.1 e28 x24.2.2.1).bind fun r29 =>
         bif r29 then
          (gd (x24.2.2.2.2.1.length + [x24.2.2.2.2.2].length)).bind fun _ =>
          some (.inr (.inl (x24.1, x24.2.1, x24.2.2.1, x24.2.2.2.1, x24.2.2.2.2.1 ++ [x24.2.2.2.2.2])))
         else
          some (.inl (x24.1, x24.2.1, x24.2.2.1, x24.2.2.2.1, x24.2.2.2.2.1, w64 (x24.2.2.2.2.2 + 1)))
        else
         some (.inl (x24.1, x24.2.1, x24.2.2.1, x24.2.2.2.1, x24.2.2.2.2.1, w64 (x24.2.2.2.2.2 + 1)))
       else
        some (.inl (x24.1, x24.2.1, x24.2.2.1, x24.2.2.2.1, x24.2.2.2.2.1, w64 (x24.2.2.2.2.2 + 1)))
      else
       some (.inr (.inl (x24.1, x24.2.1, x24.2.2.1, x24.2.2.2.1, x24.2.2.2.2.1)))
     ) (x23.1, x23.2.1, x23.2.2.1, x23.2.2.2.1, x23.2.2.2.2, 0)
    else
     some (.inr (x23.2.2.2.2))
   ) (x2.1, x2.2.1, x2.2.2.2.1, x2.2.2.2.2.1, [])
  ).bind fun r => some (.inr r)
 ) (a, b, c, List.replicate m1 false, 0, 0)
def QF : Fsp := ⟨49, [slF .part, ⟨false, .list (.list (.base .int))⟩, slF .bool], [slF .int], true, false, fun x => xQ x.1 x.2.1 x.2.2⟩
def tH (a : List (List Int)) : Option ((List Bool)) :=
 (mk (a.length : Int)).bind fun m1 =>
 ah (fun (x2 : (List (List Int)) × (List Bool) × Int) =>
  bif (decide (x2.2.2 < (x2.1.length : Int))) then
   (idx x2.1 x2.2.2).bind fun e3 =>
   (gd (0 + e3.length)).bind fun _ =>
   ah (fun (x4 : (List (List Int)) × (List Bool) × Int × (List Int) × Int) =>
    bif (decide (x4.2.2.2.2 < (x4.2.2.2.1.length : Int))) then
     (idx x4.2.2.2.1 x4.2.2.2.2).bind fun _ =>
     (x4.2.2.2.1[x4.2.2.2.2.toNat]?).bind fun e6 =>
     (idx x4.1 e6).bind fun e7 =>
     ah (fun (x8 : (List (List Int)) × (List Bool) × Int × (List Int) × Int × (List Int) × Int) =>
      bif (decide (x8.2.2.2.2.2.2 < (x8.2.2.2.2.2.1.length : Int))) then
       (idx x8.2.2.2.2.2.1 x8.2.2.2.2.2.2).bind fun e9 =>
       (dX x8.2.2.2.1 e9).bind fun r10 =>
       bif (!r10) then
        (idx x8.2.2.2.2.2.1 x8.2.2.2.2.2.2).bind fun e11 =>
        (gd (x8.2.2.2.1.length + [e11].length)).bind fun _ =>
        some (.inl (x8.1, x8.2.1, x8.2.2.1, x8.2.2.2.1 ++ [e11], x8.2.2.2.2.1, x8.2.2.2.2.2.1, w64 (x8.2.2.2.2.2.2 + 1)))
       else
        some (.inl (x8.1, x8.2.1, x8.2.2.1, x8.2.2.2.1, x8.2.2.2.2.1, x8.2.2.2.2.2.1, w64 (x8.2.2.2.2.2.2 + 1)))
      else
       some (.inr (.inl (x8.1, x8.2.1, x8.2.2.1, x8.2.2.2.1, w64 (x8.2.2.2.2.1 + 1))))
     ) (x4.1, x4.2.1, x4.2.2.1, x4.2.2.2.1, x4.2.2.2.2, e7, 0)
    else
     (
      (dX x4.2.2.2.1 x4.2.2.1).bind fun r12 =>
      (idx x4.2.1 x4.2.2.1).bind fun _ =>
      (x4.2.1[x4.2.2.1.toNat]?).bind fun e14 =>
      some (.inl (x4.1, x4.2.1.set x4.2.2.1.toNat r12, w64 (x4.2.2.1 + 1)))
     ).bind fun r => some (.inr r)
   ) (x2.1, x2.2.1, x2.2.2, [] ++ e3, 0)
  else
   some (.inr (x2.2.1))
 ) (a, List.replicate m1 false, 0)
def OA : Fsp := ⟨50, [⟨false, .list (.list (.base .int))⟩], [slF .bool], true, false, fun x => tH x⟩
def xP (a : List aF) : Option ((List Int)) :=
 (xR a).bind fun r1 =>
 (tH r1).bind fun r2 =>
 (xQ a r1 r2).bind fun r3 =>
 some (r3)
def Qv : Fsp := ⟨28, [slF .part], [slF .int], true, false, fun x => xP x⟩
def lU (a : aW) : Option ((List Str)) :=
 (mQ a).bind fun r1 =>
 (xP r1).bind fun r2 =>
 ah (fun (x3 : (List aV) × (List Str) × (List Int) × Int) =>
  bif (decide (x3.2.2.2 < (x3.2.2.1.length : Int))) then
   (idx x3.2.2.1 x3.2.2.2).bind fun _ =>
   (x3.2.2.1[x3.2.2.2.toNat]?).bind fun e5 =>
   (idx x3.1 e5).bind fun e6 =>
   (di e6.id).bind fun r7 =>
   (gd (r7.length + [32].length)).bind fun _ =>
   (di e6.version).bind fun r8 =>
   (gd ((r7 ++ [32]).length + r8.length)).bind fun _ =>
   (gd (((r7 ++ [32]) ++ r8).length + [32].length)).bind fun _ =>
   (gd ((((r7 ++ [32]) ++ r8) ++ [32]).length + e6.name.length)).bind fun _ =>
   bif (e6.kind == 2) then
    (gd (((((r7 ++ [32]) ++ r8) ++ [32]) ++ e6.name).length + [32, 61, 32].length)).bind fun _ =>
    (gd ((((((r7 ++ [32]) ++ r8) ++ [32]) ++ e6.name) ++ [32, 61, 32]).length + e6.code.length)).bind fun _ =>
    (gd (x3.2.1.length + ([(((((r7 ++ [32]) ++ r8) ++ [32]) ++ e6.name) ++ [32, 61, 32]) ++ e6.code] : List Str).length)).bind fun _ =>
    some (.inl (x3.1, x3.2.1 ++ ([(((((r7 ++ [32]) ++ r8) ++ [32]) ++ e6.name) ++ [32, 61, 32]) ++ e6.code] : List Str), x3.2.2.1, w64 (x3.2.2.2 + 1)))
   else
   bif (e6.kind == 3) then
    (gd (((((r7 ++ [32]) ++ r8) ++ [32]) ++ e6.name).length + [32, 61, 32].length)).bind fun _ =>
    (di e6.n).bind fun r9 =>
    (gd ((((((r7 ++ [32]) ++ r8) ++ [32]) ++ e6.name) ++ [32, 61, 32]).length + r9.length)).bind fun _ =>
    (gd (x3.2.1.length + ([(((((r7 ++ [32]) ++ r8) ++ [32]) ++ e6.name) ++ [32, 61, 32]) ++ r9] : List Str).length)).bind fun _ =>
    some (.inl (x3.1, x3.2.1 ++ ([(((((r7 ++ [32]) ++ r8) ++ [32]) ++ e6.name) ++ [32, 61, 32]) ++ r9] : List Str), x3.2.2.1, w64 (x3.2.2.2 + 1)))
   else
    (gd (((((r7 ++ [32]) ++ r8) ++ [32]) ++ e6.name).length + [32, 58, 32].length)).bind fun _ =>
    (gd ((((((r7 ++ [32]) ++ r8) ++ [32]) ++ e6.name) ++ [32, 58, 32]).length + e6.code.length)).bind fun _ =>
    (gd (x3.2.1.length + ([(((((r7 ++ [32]) ++ r8) ++ [32]) ++ e6.name) ++ [32, 58, 32]) ++ e6.code] : List Str).length)).bind fun _ =>
    some (.inl (x3.1, x3.2.1 ++ ([(((((r7 ++ [32]) ++ r8) ++ [32]) ++ e6.name) ++ [32, 58, 32]) ++ e6.code] : List Str), x3.2.2.1, w64 (x3.2.2.2 + 1)))
  else
   some (.inr (x3.2.1))
 ) (a.cells, [], r2, 0)
def Fp : Fsp := ⟨10, [shT .notebook], [slF .str], true, false, fun x => lU x⟩
def kU (a : List aF) (b : Int) : Option (Bool) :=
 bif (decide (b >= 0)) then
  bif (decide (b < (a.length : Int))) then
   (idx a b).bind fun e1 =>
   bif (e1.kind != 1) then
    (idx a b).bind fun e2 =>
    (oL a e2.name).bind fun r3 =>
    some ((decide ((r3.length : Int) > 1)))
   else
    some (false)
  else
   some (false)
 else
  some (false)
def JA : Fsp := ⟨85, [slF .part, shF .int], [shF .bool], true, false, fun x => kU x.1 x.2⟩
def kJ (a : List aF) (b : Int) : Option (Bool) :=
 bif (decide (b >= 0)) then
  bif (decide (b < (a.length : Int))) then
   (idx a b).bind fun e1 =>
   bif (e1.kind == 2) then
    (kU a b).bind fun r2 =>
    bif (!r2) then
     (rX a b).bind fun r3 =>
     some ((!r3))
    else
     some (false)
   else
   (idx a b).bind fun e4 =>
   bif (e4.kind == 3) then
    (kU a b).bind fun r5 =>
    bif (!r5) then
     (rX a b).bind fun r6 =>
     some ((!r6))
    else
     some (false)
   else
    some (false)
  else
   some (false)
 else
  some (false)
def Lr : Fsp := ⟨52, [slF .part, shF .int], [shF .bool], true, false, fun x => kJ x.1 x.2⟩
def JG (a : List Int) (b : List Int) : Option (Bool) :=
 ah (fun (x1 : (List Int) × (List Int) × Int × Int) =>
  bif (decide (x1.2.2.2 < x1.2.2.1)) then
   (idx x1.2.1 x1.2.2.2).bind fun e2 =>
   (og x1.1 e2).bind fun r3 =>
   bif (!r3) then
    some (.inr (false))
   else
    some (.inl (x1.1, x1.2.1, x1.2.2.1, w64 (x1.2.2.2 + 1)))
  else
   some (.inr (true))
 ) (b, a, (a.length : Int), 0)
def Z5 : Fsp := ⟨53, [slF .int, slF .int], [shF .bool], true, false, fun x => JG x.1 x.2⟩
def jP (a : List aF) (b : Int) : Option ((List Int)) :=
 (fA a b).bind fun r1 =>
 ah (fun (x2 : (List aF) × (List Int) × (List Int) × Int × Int) =>
  bif (decide (x2.2.2.2.2 < x2.2.2.2.1)) then
   (idx x2.2.2.1 x2.2.2.2.2).bind fun _ =>
   (x2.2.2.1[x2.2.2.2.2.toNat]?).bind fun e4 =>
   (kJ x2.1 e4).bind fun r5 =>
   bif r5 then
    (gd (x2.2.1.length + [e4].length)).bind fun _ =>
    some (.inl (x2.1, x2.2.1 ++ [e4], x2.2.2.1, x2.2.2.2.1, w64 (x2.2.2.2.2 + 1)))
   else
    some (.inl (x2.1, x2.2.1, x2.2.2.1, x2.2.2.2.1, w64 (x2.2.2.2.2 + 1)))
  else
   some (.inr (x2.2.1))
 ) (a, [], r1, (r1.length : Int), 0)
def Fz : Fsp := ⟨54, [slF .part, shF .int], [slF .int], true, false, fun x => jP x.1 x.2⟩
def yw (a : List aF) : Option ((List Int)) :=
 ah (fun (x1 : (List aF) × (List Int)) =>
  ah (fun (x2 : (List aF) × (List Int) × Int) =>
   bif (decide (x2.2.2 < (x2.1.length : Int))) then
    (og x2.2.1 x2.2.2).bind fun r3 =>
    bif r3 then
     some (.inl (x2.1, x2.2.1, w64 (x2.2.2 + 1)))
    else
    (kJ x2.1 x2.2.2).bind fun r4 =>
    bif (!r4) then
     some (.inl (x2.1, x2.2.1, w64 (x2.2.2 + 1)))
    else
    (jP x2.1 x2.2.2).bind fun r5 =>
    (JG r5 x2.2.1).bind fun r6 =>
    bif (!r6) then
     some (.inl (x2.1, x2.2.1, w64 (x2.2.2 + 1)))
    else
     (
      bif (x2.2.2 == (x2.1.length : Int)) then
       some (.inr (x2.2.1))
      else
       (gd (x2.2.1.length + [x2.2.2].length)).bind fun _ =>
       some (.inl (x2.1, x2.2.1 ++ [x2.2.2]))
     ).bind fun r => some (.inr r)
   else
    (
     bif (x2.2.2 == (x2.1.length : Int)) then
      some (.inr (x2.2.1))
     else
      (gd (x2.2.1.length + [x2.2.2].length)).bind fun _ =>
      some (.inl (x2.1, x2.2.1 ++ [x2.2.2]))
    ).bind fun r => some (.inr r)
  ) (x1.1, x1.2, 0)
 ) (a, [])
def RV : Fsp := ⟨30, [slF .part], [slF .int], true, false, fun x => yw x⟩
def XK : Fsp := ⟨55, [shF .int], [shF .str], true, false, fun x => yj x⟩
def iZ (a : Int) : Option (Str) :=
 (yj a).bind fun r1 =>
 some (r1)
def PI : Fsp := ⟨31, [shF .int], [shF .str], true, false, fun x => iZ x⟩
def jR (a : aW) : Option ((List Str)) :=
 (fQ a).bind fun r1 =>
 bif (!r1) then
  some ([])
 else
 (fP a).bind fun r2 =>
 (yw r2).bind fun r3 =>
 ah (fun (x4 : (List aV) × (List Str) × (List Int) × Int × Int) =>
  bif (decide (x4.2.2.2.2 < x4.2.2.2.1)) then
   (idx x4.2.2.1 x4.2.2.2.2).bind fun _ =>
   (x4.2.2.1[x4.2.2.2.2.toNat]?).bind fun e6 =>
   (idx x4.1 e6).bind fun e7 =>
   (iZ e7.id).bind fun r8 =>
   (gd (r8.length + [32].length)).bind fun _ =>
   (iZ e7.version).bind fun r9 =>
   (gd ((r8 ++ [32]).length + r9.length)).bind fun _ =>
   (gd (((r8 ++ [32]) ++ r9).length + [32].length)).bind fun _ =>
   (gd ((((r8 ++ [32]) ++ r9) ++ [32]).length + e7.name.length)).bind fun _ =>
   bif (e7.kind == 2) then
    (gd (((((r8 ++ [32]) ++ r9) ++ [32]) ++ e7.name).length + [32, 61, 32].length)).bind fun _ =>
    (gd ((((((r8 ++ [32]) ++ r9) ++ [32]) ++ e7.name) ++ [32, 61, 32]).length + e7.code.length)).bind fun _ =>
    (gd (x4.2.1.length + ([(((((r8 ++ [32]) ++ r9) ++ [32]) ++ e7.name) ++ [32, 61, 32]) ++ e7.code] : List Str).length)).bind fun _ =>
    some (.inl (x4.1, x4.2.1 ++ ([(((((r8 ++ [32]) ++ r9) ++ [32]) ++ e7.name) ++ [32, 61, 32]) ++ e7.code] : List Str), x4.2.2.1, x4.2.2.2.1, w64 (x4.2.2.2.2 + 1)))
   else
   bif (e7.kind == 3) then
    (gd (((((r8 ++ [32]) ++ r9) ++ [32]) ++ e7.name).length + [32, 61, 32].length)).bind fun _ =>
    (iZ e7.n).bind fun r10 =>
    (gd ((((((r8 ++ [32]) ++ r9) ++ [32]) ++ e7.name) ++ [32, 61, 32]).length + r10.length)).bind fun _ =>
    (gd (x4.2.1.length + ([(((((r8 ++ [32]) ++ r9) ++ [32]) ++ e7.name) ++ [32, 61, 32]) ++ r10] : List Str).length)).bind fun _ =>
    some (.inl (x4.1, x4.2.1 ++ ([(((((r8 ++ [32]) ++ r9) ++ [32]) ++ e7.name) ++ [32, 61, 32]) ++ r10] : List Str), x4.2.2.1, x4.2.2.2.1, w64 (x4.2.2.2.2 + 1)))
   else
    bif (e7.kind == 4) then
     (gd (((((r8 ++ [32]) ++ r9) ++ [32]) ++ e7.name).length + [32, 58, 32].length)).bind fun _ =>
     (gd ((((((r8 ++ [32]) ++ r9) ++ [32]) ++ e7.name) ++ [32, 58, 32]).length + e7.code.length)).bind fun _ =>
     (gd (x4.2.1.length + ([(((((r8 ++ [32]) ++ r9) ++ [32]) ++ e7.name) ++ [32, 58, 32]) ++ e7.code] : List Str).length)).bind fun _ =>
     some (.inl (x4.1, x4.2.1 ++ ([(((((r8 ++ [32]) ++ r9) ++ [32]) ++ e7.name) ++ [32, 58, 32]) ++ e7.code] : List Str), x4.2.2.1, x4.2.2.2.1, w64 (x4.2.2.2.2 + 1)))
    else
     (gd (x4.2.1.length + ([(((r8 ++ [32]) ++ r9) ++ [32]) ++ e7.name] : List Str).length)).bind fun _ =>
     some (.inl (x4.1, x4.2.1 ++ ([(((r8 ++ [32]) ++ r9) ++ [32]) ++ e7.name] : List Str), x4.2.2.1, x4.2.2.2.1, w64 (x4.2.2.2.2 + 1)))
  else
   some (.inr (x4.2.1))
 ) (a.cells, [], r3, (r3.length : Int), 0)
def FH : Fsp := ⟨11, [shT .notebook], [slF .str], true, false, fun x => jR x⟩
def oM (a : List Str) (b : List Str) : Option (Bool) :=
 bif ((a.length : Int) != (b.length : Int)) then
  some (false)
 else
 ah (fun (x1 : (List Str) × (List Str) × Int) =>
  bif (decide (x1.2.2 < (x1.1.length : Int))) then
   (idx x1.1 x1.2.2).bind fun e2 =>
   (idx x1.2.1 x1.2.2).bind fun e3 =>
   bif (!(e2 == e3)) then
    some (.inr (false))
   else
    some (.inl (x1.1, x1.2.1, w64 (x1.2.2 + 1)))
  else
   some (.inr (true))
 ) (a, b, 0)
def SI : Fsp := ⟨12, [slF .str, slF .str], [shF .bool], true, false, fun x => oM x.1 x.2⟩
def kS (a : Int) : Option (Str) :=
 bif (decide (a <= 0)) then
  some ([109, 48])
 else
  ah (fun (x1 : Int × Str) =>
   bif (decide (x1.1 > 0)) then
    (gd ((bytesOf [w8 (w64 (48 + (x1.1.tmod 10)))]).length + x1.2.length)).bind fun _ =>
    some (.inl (w64 (x1.1.tdiv 10), (bytesOf [w8 (w64 (48 + (x1.1.tmod 10)))]) ++ x1.2))
   else
    (
     (gd ([109].length + x1.2.length)).bind fun _ =>
     some ([109] ++ x1.2)
    ).bind fun r => some (.inr r)
  ) (a, [])
def UM : Fsp := ⟨33, [shF .int], [shF .str], true, false, fun x => kS x⟩
def yh (a : List aV) (b : Int) : Option (List aV × Int) :=
 ah (fun (x : List aV × Int × Int) =>
  bif (decide (x.2.1 < (x.1.length : Int))) then
   (idx x.1 x.2.1).bind fun _ =>
   (x.1[x.2.1.toNat]?).bind fun e1 =>
   (some (x.1.set x.2.1.toNat (aV.mk x.2.2 e1.version e1.kind e1.name e1.code e1.n))).bind fun z2 =>
   (idx z2 x.2.1).bind fun _ =>
   (z2[x.2.1.toNat]?).bind fun e3 =>
   (some (z2.set x.2.1.toNat (aV.mk e3.id (w64 (x.2.2 + 1)) e3.kind e3.name e3.code e3.n))).bind fun z4 =>
   (idx z4 x.2.1).bind fun _ =>
   (z4[x.2.1.toNat]?).bind fun e5 =>
   (some (z4.set x.2.1.toNat (aV.mk e5.id e5.version (w64 ((w64 (x.2.2 + 1)) + 1)) e5.name e5.code e5.n))).bind fun z6 =>
   (kS (w64 ((w64 ((w64 (x.2.2 + 1)) + 1)) + 1))).bind fun t7 =>
   (idx z6 x.2.1).bind fun _ =>
   (z6[x.2.1.toNat]?).bind fun e8 =>
   (some (z6.set x.2.1.toNat (aV.mk e8.id e8.version e8.kind t7 e8.code e8.n))).bind fun z9 =>
   (kS (w64 ((w64 ((w64 ((w64 (x.2.2 + 1)) + 1)) + 1)) + 1))).bind fun t10 =>
   (idx z9 x.2.1).bind fun _ =>
   (z9[x.2.1.toNat]?).bind fun e11 =>
   (some (z9.set x.2.1.toNat (aV.mk e11.id e11.version e11.kind e11.name t10 e11.n))).bind fun z12 =>
   (idx z12 x.2.1).bind fun _ =>
   (z12[x.2.1.toNat]?).bind fun e13 =>
   (some (z12.set x.2.1.toNat (aV.mk e13.id e13.version e13.kind e13.name e13.code (w64 ((w64 ((w64 ((w64 ((w64 (x.2.2 + 1)) + 1)) + 1)) + 1)) + 1))))).bind fun z14 =>
   some (.inl (z14, w64 (x.2.1 + 1), w64 ((w64 ((w64 ((w64 ((w64 ((w64 (x.2.2 + 1)) + 1)) + 1)) + 1)) + 1)) + 1)))
  else
   some (.inr (x.1, x.2.2))
 ) (a, 0, b)
def Rt : Msp := { fid := 32, sh := ⟨false, .list (.base .cell)⟩, fn := fun x n => yh x n }
def nT (a : aW) (b : Int) : Option (aW × Int) :=
 (yh a.cells b).bind fun r1 =>
 some (aW.mk r1.1, r1.2)
def I4 : Msp := { fid := 13, sh := ⟨true, .base .notebook⟩, fn := fun x n => nT x n }
def qj (a : List Str) (b : Int) : Option (List Str × Int) :=
 ah (fun (x : List Str × Int × Int) =>
  bif (decide (x.2.1 < (x.1.length : Int))) then
   (kS x.2.2).bind fun t1 =>
   (idx x.1 x.2.1).bind fun _ =>
   (x.1[x.2.1.toNat]?).bind fun e2 =>
   (some (x.1.set x.2.1.toNat t1)).bind fun z3 =>
   some (.inl (z3, w64 (x.2.1 + 1), w64 (x.2.2 + 1)))
  else
   some (.inr (x.1, x.2.2))
 ) (a, 0, b)
def KY : Msp := { fid := 14, sh := ⟨false, .list (.base .str)⟩, fn := fun x n => qj x n }
def ni (a : List Str) (b : Int) : Option (Int) :=
 ah (fun (x1 : (List Str) × Int × Int) =>
  bif (decide (x1.2.2 < (x1.1.length : Int))) then
   (idx x1.1 x1.2.2).bind fun e2 =>
   (kS x1.2.1).bind fun r3 =>
   bif (!(e2 == r3)) then
    some (.inr ((-1)))
   else
    some (.inl (x1.1, w64 (x1.2.1 + 1), w64 (x1.2.2 + 1)))
  else
   some (.inr (x1.2.1))
 ) (a, b, 0)
def LJ : Fsp := ⟨15, [slF .str, shF .int], [shF .int], true, false, fun x => ni x.1 x.2⟩
def FnExactExportScript (a : aW) : Option (Bool) :=
 (oU a 1048576).bind fun r1 =>
 bif (decide (r1 < 0)) then
  some (true)
 else
 (iw a).bind fun r2 =>
 (lU r2).bind fun r3 =>
 (iw a).bind fun r4 =>
 (jR r4).bind fun r5 =>
 (oM r5 r3).bind fun r6 =>
 bif (!r6) then
  some (false)
 else
 (iw a).bind fun r7 =>
 (lN r4 r7).bind fun r8 =>
 bif (!r8) then
  some (false)
 else
 (nT r4 1).bind fun r9 =>
 bif (decide (r9.2 < 0)) then
  some (false)
 else
 (oM r5 r3).bind fun r10 =>
 bif (!r10) then
  some (false)
 else
 (qj r5 1).bind fun r11 =>
 (ni r11.1 1).bind fun r12 =>
 bif (decide (r12 < 0)) then
  some (false)
 else
 bif (r12 != r11.2) then
  some (false)
 else
 (iw a).bind fun r13 =>
 (jR r13).bind fun r14 =>
 (oM r14 r3).bind fun r15 =>
 bif (!r15) then
  some (false)
 else
  (ni r11.1 1).bind fun r16 =>
  bif (decide (r16 < 0)) then
   some (false)
  else
   bif (r16 != r11.2) then
    some (false)
   else
    some (true)
def vN : Fsp := ⟨4, [shT .notebook], [shF .bool], true, false, fun x => FnExactExportScript x⟩
end
end Go.Proofs.YtgfjbogcidlaeaaGreatDoor
