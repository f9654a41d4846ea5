import Derived.WalkKit
/- Typed data for the Go structures of the program, and the universe of one-cell data. Written by gentypes.py. -/
theorem zA {α β : Type _} (a : α) (f : α -> Option β) : (some a).bind f = f a := rfl
theorem zB {α β : Type _} {o : Option α} {f : α -> Option β} {b : β} : o.bind f = some b ↔ ∃ a, o = some a /\ f a = some b := Option.bind_eq_some_iff
theorem zC {α : Type _} {l : List α} {i : Nat} {a : α} : l[i]? = some a ↔ ∃ h : i < l.length, l[i] = a := List.getElem?_eq_some_iff
theorem zD {α : Type _} (a b : α) : (some a = some b) = (a = b) := Option.some.injEq a b
theorem zE {α : Type _} {l : List α} {i : Nat} {a : α} : l.getD i a = l[i]?.getD a := List.getD_eq_getElem?_getD
theorem zF {α : Type _} {l : List α} {i : Nat} (h : i < l.length) : l[i]? = some l[i] := List.getElem?_eq_getElem h
theorem zG {α : Type _} {l : List α} {i : Nat} {a : α} (h : l[i]? = some a) : a ∈ l := List.mem_of_getElem? h
theorem zH {α β : Type _} {f : α -> β} {l : List α} {b : β} {bs : List β} : l.map f = b :: bs ↔ ∃ a as, l = a :: as /\ f a = b /\ as.map f = bs := List.map_eq_cons_iff
theorem zI (a b : Bool) : ((a && b) = true) = (a = true /\ b = true) := Bool.and_eq_true a b
theorem zJ {α : Type _} {l : List α} {i : Nat} (h : l.length <= i) : l[i]? = none := List.getElem?_eq_none h
namespace Go.Abs
abbrev Str := List UInt8
structure gy where
 cell : Int
 row : Int
structure bQ where
 cells : List Int
 orig : List gy
structure bg where
 kind : Int
 n : Int
 step : Int
 text : Str
 list : List bg
 columns : List Str
 rows : List bQ
structure aG where
 kind : Int
 n : Int
 pos : Int
 text : Str
structure af where
 kind : Int
 n : Int
 text : Str
 args : List af
structure aV where
 id : Int
 version : Int
 kind : Int
 name : Str
 code : Str
 n : Int
structure aW where
 cells : List aV
structure aF where
 kind : Int
 name : Str
 expr : af
 value : bg
 pos : Int
structure GRd where
 toks : List aG
 i : Int
 stop : Int
 bad : Int
structure aN where
 toks : List aG
 i : Int
 bad : Int
def gG (x : bg) : bg := ⟨x.kind, x.n, x.step, x.text, x.list, x.columns, x.rows⟩
theorem Ij (x : bg) : gG x = x := by cases x; simp [gG]
def aj (x : af) : af := ⟨x.kind, x.n, x.text, x.args⟩
theorem bF (x : af) : aj x = x := by cases x; simp [aj]
def kR (x : aF) : aF := ⟨x.kind, x.name, aj x.expr, gG x.value, x.pos⟩
theorem MN (x : aF) : kR x = x := by cases x; simp [kR, bF, Ij]
inductive Base where
 | int | u8 | bool | str | origin | row | val | token | expr | cell | notebook | part | rd | psr
 deriving DecidableEq
inductive Ty where
 | base (b : Base)
 | list (t : Ty)
 deriving DecidableEq
abbrev Base.den : Base -> Type
 | .int => Int | .u8 => Int | .bool => Bool | .str => Str
 | .origin => gy
 | .row => bQ
 | .val => bg
 | .token => aG
 | .expr => af
 | .cell => aV
 | .notebook => aW
 | .part => aF
 | .rd => GRd
 | .psr => aN
abbrev Ty.den : Ty -> Type
 | .base b => b.den
 | .list t => List t.den
inductive D where
 | int (k : IntKind) (n : Int)
 | bool (b : Bool)
 | str (s : Str)
 | list (t : Ty) (xs : List t.den)
def D.dQ (t : Ty) : D -> Option (List t.den)
 | .list t' xs => if h : t' = t then some (h ▸ xs) else none
 | _ => none
theorem D.dB {t : Ty} {d : D} {xs : List t.den} (h : d.dQ t = some xs) : d = .list t xs := by
 cases d with
 | list t' ys =>
  simp only [D.dQ] at h
  split at h
  ·rename_i e; subst e; simp at h; rw [h]
  ·cases h
 | _ => simp [D.dQ] at h
def Base.size : Base -> Nat
 | .int => 1 | .u8 => 1 | .bool => 1 | .str => 1
 | .origin => 2
 | .row => 2
 | .val => 7
 | .token => 4
 | .expr => 4
 | .cell => 6
 | .notebook => 1
 | .part => 14
 | .rd => 4
 | .psr => 3
def Base.cells : (b : Base) -> b.den -> List D
 | .int, n => [.int .i64 n] | .u8, c => [.int .u8 c] | .bool, b => [.bool b] | .str, s => [.str s]
 | .origin, x => [.int .i64 x.cell, .int .i64 x.row]
 | .row, x => [.list (.base .int) x.cells, .list (.base .origin) x.orig]
 | .val, x => [.int .i64 x.kind, .int .i64 x.n, .int .i64 x.step, .str x.text, .list (.base .val) x.list, .list (.base .str) x.columns, .list (.base .row) x.rows]
 | .token, x => [.int .i64 x.kind, .int .i64 x.n, .int .i64 x.pos, .str x.text]
 | .expr, x => [.int .i64 x.kind, .int .i64 x.n, .str x.text, .list (.base .expr) x.args]
 | .cell, x => [.int .i64 x.id, .int .i64 x.version, .int .i64 x.kind, .str x.name, .str x.code, .int .i64 x.n]
 | .notebook, x => [.list (.base .cell) x.cells]
 | .part, x => [.int .i64 x.kind, .str x.name, .int .i64 x.expr.kind, .int .i64 x.expr.n, .str x.expr.text, .list (.base .expr) x.expr.args, .int .i64 x.value.kind, .int .i64 x.value.n, .int .i64 x.value.step, .str x.value.text, .list (.base .val) x.value.list, .list (.base .str) x.value.columns, .list (.base .row) x.value.rows, .int .i64 x.pos]
 | .rd, x => [.list (.base .token) x.toks, .int .i64 x.i, .int .i64 x.stop, .int .i64 x.bad]
 | .psr, x => [.list (.base .token) x.toks, .int .i64 x.i, .int .i64 x.bad]
theorem Base.aQ (b : Base) (x : b.den) : (b.cells x).length = b.size := by cases b <;> rfl
def rF : List D -> Option gy
 | [.int .i64 a0, .int .i64 a1] => some ⟨a0, a1⟩
 | _ => none
theorem IJ {ds : List D} {x : gy} (h : rF ds = some x) : Base.cells .origin x = ds := by
 unfold rF at h
 split at h
 ·simp only [Option.some.injEq] at h
  subst h; rfl
 ·cases h
def IG : List D -> Option bQ
 | [d0, d1] => (d0.dQ (.base .int)).bind fun a0 => (d1.dQ (.base .origin)).bind fun a1 => some ⟨a0, a1⟩
 | _ => none
theorem Ri {ds : List D} {x : bQ} (h : IG ds = some x) : Base.cells .row x = ds := by
 unfold IG at h
 split at h
 ·simp only [Option.bind_eq_some_iff, Option.some.injEq] at h
  obtain ⟨a0, h0, a1, h1, rfl⟩ := h
  simp only [Base.cells, D.dB h0, D.dB h1]
 ·cases h
def IE : List D -> Option bg
 | [.int .i64 a0, .int .i64 a1, .int .i64 a2, .str a3, d4, d5, d6] => (d4.dQ (.base .val)).bind fun a4 => (d5.dQ (.base .str)).bind fun a5 => (d6.dQ (.base .row)).bind fun a6 => some ⟨a0, a1, a2, a3, a4, a5, a6⟩
 | _ => none
theorem Rh {ds : List D} {x : bg} (h : IE ds = some x) : Base.cells .val x = ds := by
 unfold IE at h
 split at h
 ·simp only [Option.bind_eq_some_iff, Option.some.injEq] at h
  obtain ⟨a4, h4, a5, h5, a6, h6, rfl⟩ := h
  simp only [Base.cells, D.dB h4, D.dB h5, D.dB h6]
 ·cases h
def wK : List D -> Option aG
 | [.int .i64 a0, .int .i64 a1, .int .i64 a2, .str a3] => some ⟨a0, a1, a2, a3⟩
 | _ => none
theorem KU {ds : List D} {x : aG} (h : wK ds = some x) : Base.cells .token x = ds := by
 unfold wK at h
 split at h
 ·simp only [Option.some.injEq] at h
  subst h; rfl
 ·cases h
def BF : List D -> Option af
 | [.int .i64 a0, .int .i64 a1, .str a2, d3] => (d3.dQ (.base .expr)).bind fun a3 => some ⟨a0, a1, a2, a3⟩
 | _ => none
theorem O1 {ds : List D} {x : af} (h : BF ds = some x) : Base.cells .expr x = ds := by
 unfold BF at h
 split at h
 ·simp only [Option.bind_eq_some_iff, Option.some.injEq] at h
  obtain ⟨a3, h3, rfl⟩ := h
  simp only [Base.cells, D.dB h3]
 ·cases h
def of_cell : List D -> Option aV
 | [.int .i64 a0, .int .i64 a1, .int .i64 a2, .str a3, .str a4, .int .i64 a5] => some ⟨a0, a1, a2, a3, a4, a5⟩
 | _ => none
theorem O3 {ds : List D} {x : aV} (h : of_cell ds = some x) : Base.cells .cell x = ds := by
 unfold of_cell at h
 split at h
 ·simp only [Option.some.injEq] at h
  subst h; rfl
 ·cases h
def mW : List D -> Option aW
 | [d0] => (d0.dQ (.base .cell)).bind fun a0 => some ⟨a0⟩
 | _ => none
theorem Dy {ds : List D} {x : aW} (h : mW ds = some x) : Base.cells .notebook x = ds := by
 unfold mW at h
 split at h
 ·simp only [Option.bind_eq_some_iff, Option.some.injEq] at h
  obtain ⟨a0, h0, rfl⟩ := h
  simp only [Base.cells, D.dB h0]
 ·cases h
def BD : List D -> Option aF
 | [.int .i64 a0, .str a1, .int .i64 a2, .int .i64 a3, .str a4, d5, .int .i64 a6, .int .i64 a7, .int .i64 a8, .str a9, d10, d11, d12, .int .i64 a13] => (d5.dQ (.base .expr)).bind fun a5 => (d10.dQ (.base .val)).bind fun a10 => (d11.dQ (.base .str)).bind fun a11 => (d12.dQ (.base .row)).bind fun a12 => some ⟨a0, a1, ⟨a2, a3, a4, a5⟩, ⟨a6, a7, a8, a9, a10, a11, a12⟩, a13⟩
 | _ => none
theorem O0 {ds : List D} {x : aF} (h : BD ds = some x) : Base.cells .part x = ds := by
 unfold BD at h
 split at h
 ·simp only [Option.bind_eq_some_iff, Option.some.injEq] at h
  obtain ⟨a5, h5, a10, h10, a11, h11, a12, h12, rfl⟩ := h
  simp only [Base.cells, D.dB h5, D.dB h10, D.dB h11, D.dB h12]
 ·cases h
def Rj : List D -> Option GRd
 | [d0, .int .i64 a1, .int .i64 a2, .int .i64 a3] => (d0.dQ (.base .token)).bind fun a0 => some ⟨a0, a1, a2, a3⟩
 | _ => none
theorem UI {ds : List D} {x : GRd} (h : Rj ds = some x) : Base.cells .rd x = ds := by
 unfold Rj at h
 split at h
 ·simp only [Option.bind_eq_some_iff, Option.some.injEq] at h
  obtain ⟨a0, h0, rfl⟩ := h
  simp only [Base.cells, D.dB h0]
 ·cases h
def II : List D -> Option aN
 | [d0, .int .i64 a1, .int .i64 a2] => (d0.dQ (.base .token)).bind fun a0 => some ⟨a0, a1, a2⟩
 | _ => none
theorem Rk {ds : List D} {x : aN} (h : II ds = some x) : Base.cells .psr x = ds := by
 unfold II at h
 split at h
 ·simp only [Option.bind_eq_some_iff, Option.some.injEq] at h
  obtain ⟨a0, h0, rfl⟩ := h
  simp only [Base.cells, D.dB h0]
 ·cases h
def Base.dJ : (b : Base) -> List D -> Option b.den
 | .int, ds => match ds with | [.int .i64 n] => some n | _ => none
 | .u8, ds => match ds with | [.int .u8 n] => some n | _ => none
 | .bool, ds => match ds with | [.bool b] => some b | _ => none
 | .str, ds => match ds with | [.str s] => some s | _ => none
 | .origin, ds => rF ds
 | .row, ds => IG ds
 | .val, ds => IE ds
 | .token, ds => wK ds
 | .expr, ds => BF ds
 | .cell, ds => of_cell ds
 | .notebook, ds => mW ds
 | .part, ds => BD ds
 | .rd, ds => Rj ds
 | .psr, ds => II ds
theorem Base.bV {b : Base} {ds : List D} {x : b.den} (h : b.dJ ds = some x) : b.cells x = ds := by
 cases b
 case int => simp only [Base.dJ] at h; split at h <;> simp_all [Base.cells]
 case u8 => simp only [Base.dJ] at h; split at h <;> simp_all [Base.cells]
 case bool => simp only [Base.dJ] at h; split at h <;> simp_all [Base.cells]
 case str => simp only [Base.dJ] at h; split at h <;> simp_all [Base.cells]
 case origin => exact IJ h
 case row => exact Ri h
 case val => exact Rh h
 case token => exact KU h
 case expr => exact O1 h
 case cell => exact O3 h
 case notebook => exact Dy h
 case part => exact O0 h
 case rd => exact UI h
 case psr => exact Rk h
def Base.zero : (b : Base) -> b.den
 | .int => (0 : Int) | .u8 => (0 : Int) | .bool => false | .str => ([] : Str)
 | .origin => ⟨0, 0⟩
 | .row => ⟨[], []⟩
 | .val => ⟨0, 0, 0, [], [], [], []⟩
 | .token => ⟨0, 0, 0, []⟩
 | .expr => ⟨0, 0, [], []⟩
 | .cell => ⟨0, 0, 0, [], [], 0⟩
 | .notebook => ⟨[]⟩
 | .part => ⟨0, [], ⟨0, 0, [], []⟩, ⟨0, 0, 0, [], [], [], []⟩, 0⟩
 | .rd => ⟨[], 0, 0, 0⟩
 | .psr => ⟨[], 0, 0⟩
def Ty.size : Ty -> Nat
 | .base b => b.size
 | .list _ => 1
def Ty.cells : (t : Ty) -> t.den -> List D
 | .base b, x => b.cells x
 | .list t, xs => [.list t xs]
theorem Ty.aQ (t : Ty) (x : t.den) : (t.cells x).length = t.size := by
 cases t with
 | base b => exact Base.aQ b x
 | list t => rfl
def Ty.dJ : (t : Ty) -> List D -> Option t.den
 | .base b, ds => b.dJ ds
 | .list t, ds => match ds with | [d] => d.dQ t | _ => none
theorem Ty.bV {t : Ty} {ds : List D} {x : t.den} (h : t.dJ ds = some x) : t.cells x = ds := by
 cases t with
 | base b => exact Base.bV h
 | list t =>
  simp only [Ty.dJ] at h
  split at h
  ·simp only [Ty.cells, D.dB h]
  ·cases h
def Ty.zero : (t : Ty) -> t.den
 | .base b => b.zero
 | .list t => ([] : List t.den)
theorem Ty.size_pos (t : Ty) : 0 < t.size := by
 cases t with
 | base b => cases b <;> decide
 | list t => exact Nat.one_pos
end Go.Abs
