import Derived.Test.YtgfjbogcidlaeaaGreatDoorAbs
import Derived.Lib.ItoaNum
import Derived.Lib.AtoiAll
import Derived.Lib.Join
import Derived.Lib.Bytealg
import Derived.Lib.Strings
import Derived.Lib.Split
/- What the library's functions compute, by their plain meaning. -/
namespace Go.Abs
def yj (n : Int) : Option Str := if -9223372036854775808 <= n /\ n <= 9223372036854775807 then some (Go.Lib.itoa n) else none
def dG (s : Str) (c : Int) : Option Int := some (Go.Lib.indexByte s c.toNat.toUInt8)
def gU (s p : Str) : Option Bool := some (Go.Lib.hasPrefix s p)
def jc (s sep : Str) : Option (List Str) := if s.length < 4294967281 /\ 1 <= sep.length then some (Go.Lib.split s sep) else none
noncomputable def gm (xs : List Str) : Option (List Str) := (gd xs.length).bind fun _ => some (xs.mergeSort fun x y => decide (x <= y))
def addN (out : List Int) (n : Int) : List Int := if out.contains n = true then out else out ++ [n]
def y7 (xs : List Int) : List Int := xs.foldl addN []
noncomputable def mF (xs : List Int) : List Int := (y7 xs).mergeSort fun x y => decide (x <= y)
def abH (n : Int) : Bool := decide (-9223372036854775808 <= n) && decide (n <= 9223372036854775807)
noncomputable def DF (xs : List Int) : Option (List Int) := (gd xs.length).bind fun _ => if xs.all abH = true then some (mF xs) else none
def kQ (D : Int -> Option (List Int)) (x : List Int × List Int) : Option ((List Int × List Int) ⊕ List Int) := match x.2 with
 | [] => some (.inr x.1)
 | k :: t => bif x.1.contains k then some (.inl (x.1, t)) else (D k).bind fun r => (gd (x.1.length + 1)).bind fun _ => (gd (t.length + r.length)).bind fun _ => some (.inl (x.1 ++ [k], t ++ r))
def uP (C : Int -> Option (List Int)) : Nat -> Int -> List Int -> Option (List Int)
 | 0, _, best => some best
 | n + 1, i, best => (C i).bind fun c => uP C n (i + 1) (if 0 < c.length /\ (best = [] \/ c.length < best.length) then c else best)
def mY (s : Str) (low high : Int) : Option (Int × Bool) := (gd s.length).bind fun _ => some (match Go.Lib.atoiAll s with
 | .ok v => if v < low \/ high < v \/ Go.Lib.itoa v ≠ s then (0, false) else (v, true)
 | _ => (0, false))
def cZ (rec : af -> List Str -> Option (List (Str × List Str))) (binds : Bool) (x : Str) (bound : List Str) : Nat -> List af -> Option (List (Str × List Str))
 | _, [] => some []
 | i, a :: r => (if binds && decide (0 < i) then (gd (bound.length + 1)).bind fun _ => rec a (bound ++ [x]) else rec a bound).bind fun u => (cZ rec binds x bound (i + 1) r).bind fun v => some (u ++ v)
def jB : Nat -> af -> List Str -> Option (List (Str × List Str))
 | 0, _, _ => none
 | n + 1, e, bound => (gd bound.length).bind fun _ => (gd e.args.length).bind fun _ =>
  if e.kind = 3 /\ bound.contains e.text = false then some [(e.text, bound)] else cZ (jB n) (decide (e.kind = 7) || decide (e.kind = 9)) e.text bound 0 e.args
end Go.Abs
