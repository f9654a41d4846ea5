import Derived.WalkKit
/- Typed data for the Go structures of the program, and the universe of one-cell data. Written by gentypes.py. -/
namespace Go.Abs
abbrev Str := List UInt8
structure GOrigin where
 cell : Int
 row : Int
structure GRow where
 cells : List Int
 orig : List GOrigin
structure GVal where
 kind : Int
 n : Int
 step : Int
 text : Str
 list : List GVal
 columns : List Str
 rows : List GRow
structure GToken where
 kind : Int
 n : Int
 pos : Int
 text : Str
structure GExpr where
 kind : Int
 n : Int
 text : Str
 args : List GExpr
structure GCell where
 id : Int
 version : Int
 kind : Int
 name : Str
 code : Str
 n : Int
structure GNotebook where
 cells : List GCell
structure GPart where
 kind : Int
 name : Str
 expr : GExpr
 value : GVal
 pos : Int
structure GRd where
 toks : List GToken
 i : Int
 stop : Int
 bad : Int
structure GPsr where
 toks : List GToken
 i : Int
 bad : Int
def reVal (x : GVal) : GVal := ⟨x.kind, x.n, x.step, x.text, x.list, x.columns, x.rows⟩
def reExpr (x : GExpr) : GExpr := ⟨x.kind, x.n, x.text, x.args⟩
theorem reExpr_eq (x : GExpr) : reExpr x = x := by cases x; simp [reExpr]
def rePart (x : GPart) : GPart := ⟨x.kind, x.name, reExpr x.expr, reVal x.value, x.pos⟩
inductive Base where
 | int | u8 | bool | str | origin | row | val | token | expr | cell | notebook | part | rd | psr
 deriving DecidableEq
inductive Ty where
 | base (b : Base)
 | list (t : Ty)
 deriving DecidableEq
abbrev Base.den : Base -> Type
 | .int => Int | .u8 => Int | .bool => Bool | .str => Str
 | .origin => GOrigin
 | .row => GRow
 | .val => GVal
 | .token => GToken
 | .expr => GExpr
 | .cell => GCell
 | .notebook => GNotebook
 | .part => GPart
 | .rd => GRd
 | .psr => GPsr
abbrev Ty.den : Ty -> Type
 | .base b => b.den
 | .list t => List t.den
inductive D where
 | int (k : IntKind) (n : Int)
 | bool (b : Bool)
 | str (s : Str)
 | list (t : Ty) (xs : List t.den)
def D.asList (t : Ty) : D -> Option (List t.den)
 | .list t' xs => if h : t' = t then some (h ▸ xs) else none
 | _ => none
theorem D.asList_some {t : Ty} {d : D} {xs : List t.den} (h : d.asList t = some xs) : d = .list t xs := by
 cases d with
 | list t' ys =>
  simp only [D.asList] at h
  split at h
  ·rename_i e; subst e; simp at h; rw [h]
  ·cases h
 | _ => simp [D.asList] at h
def Base.size : Base -> Nat
 | .int => 1 | .u8 => 1 | .bool => 1 | .str => 1
 | .origin => 2
 | .row => 2
 | .val => 7
 | .token => 4
 | .expr => 4
 | .cell => 6
 | .notebook => 1
 | .part => 14
 | .rd => 4
 | .psr => 3
def Base.cells : (b : Base) -> b.den -> List D
 | .int, n => [.int .i64 n] | .u8, c => [.int .u8 c] | .bool, b => [.bool b] | .str, s => [.str s]
 | .origin, x => [.int .i64 x.cell, .int .i64 x.row]
 | .row, x => [.list (.base .int) x.cells, .list (.base .origin) x.orig]
 | .val, x => [.int .i64 x.kind, .int .i64 x.n, .int .i64 x.step, .str x.text, .list (.base .val) x.list, .list (.base .str) x.columns, .list (.base .row) x.rows]
 | .token, x => [.int .i64 x.kind, .int .i64 x.n, .int .i64 x.pos, .str x.text]
 | .expr, x => [.int .i64 x.kind, .int .i64 x.n, .str x.text, .list (.base .expr) x.args]
 | .cell, x => [.int .i64 x.id, .int .i64 x.version, .int .i64 x.kind, .str x.name, .str x.code, .int .i64 x.n]
 | .notebook, x => [.list (.base .cell) x.cells]
 | .part, x => [.int .i64 x.kind, .str x.name, .int .i64 x.expr.kind, .int .i64 x.expr.n, .str x.expr.text, .list (.base .expr) x.expr.args, .int .i64 x.value.kind, .int .i64 x.value.n, .int .i64 x.value.step, .str x.value.text, .list (.base .val) x.value.list, .list (.base .str) x.value.columns, .list (.base .row) x.value.rows, .int .i64 x.pos]
 | .rd, x => [.list (.base .token) x.toks, .int .i64 x.i, .int .i64 x.stop, .int .i64 x.bad]
 | .psr, x => [.list (.base .token) x.toks, .int .i64 x.i, .int .i64 x.bad]
theorem Base.cells_length (b : Base) (x : b.den) : (b.cells x).length = b.size := by cases b <;> rfl
def of_origin : List D -> Option GOrigin
 | [.int .i64 a0, .int .i64 a1] => some ⟨a0, a1⟩
 | _ => none
theorem of_origin_some {ds : List D} {x : GOrigin} (h : of_origin ds = some x) : Base.cells .origin x = ds := by
 unfold of_origin at h
 split at h
 ·simp only [Option.some.injEq] at h
  subst h; rfl
 ·cases h
def of_row : List D -> Option GRow
 | [d0, d1] => (d0.asList (.base .int)).bind fun a0 => (d1.asList (.base .origin)).bind fun a1 => some ⟨a0, a1⟩
 | _ => none
theorem of_row_some {ds : List D} {x : GRow} (h : of_row ds = some x) : Base.cells .row x = ds := by
 unfold of_row at h
 split at h
 ·simp only [Option.bind_eq_some_iff, Option.some.injEq] at h
  obtain ⟨a0, h0, a1, h1, rfl⟩ := h
  simp only [Base.cells, D.asList_some h0, D.asList_some h1]
 ·cases h
def of_val : List D -> Option GVal
 | [.int .i64 a0, .int .i64 a1, .int .i64 a2, .str a3, d4, d5, d6] => (d4.asList (.base .val)).bind fun a4 => (d5.asList (.base .str)).bind fun a5 => (d6.asList (.base .row)).bind fun a6 => some ⟨a0, a1, a2, a3, a4, a5, a6⟩
 | _ => none
theorem of_val_some {ds : List D} {x : GVal} (h : of_val ds = some x) : Base.cells .val x = ds := by
 unfold of_val at h
 split at h
 ·simp only [Option.bind_eq_some_iff, Option.some.injEq] at h
  obtain ⟨a4, h4, a5, h5, a6, h6, rfl⟩ := h
  simp only [Base.cells, D.asList_some h4, D.asList_some h5, D.asList_some h6]
 ·cases h
def of_token : List D -> Option GToken
 | [.int .i64 a0, .int .i64 a1, .int .i64 a2, .str a3] => some ⟨a0, a1, a2, a3⟩
 | _ => none
theorem of_token_some {ds : List D} {x : GToken} (h : of_token ds = some x) : Base.cells .token x = ds := by
 unfold of_token at h
 split at h
 ·simp only [Option.some.injEq] at h
  subst h; rfl
 ·cases h
def of_expr : List D -> Option GExpr
 | [.int .i64 a0, .int .i64 a1, .str a2, d3] => (d3.asList (.base .expr)).bind fun a3 => some ⟨a0, a1, a2, a3⟩
 | _ => none
theorem of_expr_some {ds : List D} {x : GExpr} (h : of_expr ds = some x) : Base.cells .expr x = ds := by
 unfold of_expr at h
 split at h
 ·simp only [Option.bind_eq_some_iff, Option.some.injEq] at h
  obtain ⟨a3, h3, rfl⟩ := h
  simp only [Base.cells, D.asList_some h3]
 ·cases h
def of_cell : List D -> Option GCell
 | [.int .i64 a0, .int .i64 a1, .int .i64 a2, .str a3, .str a4, .int .i64 a5] => some ⟨a0, a1, a2, a3, a4, a5⟩
 | _ => none
theorem of_cell_some {ds : List D} {x : GCell} (h : of_cell ds = some x) : Base.cells .cell x = ds := by
 unfold of_cell at h
 split at h
 ·simp only [Option.some.injEq] at h
  subst h; rfl
 ·cases h
def of_notebook : List D -> Option GNotebook
 | [d0] => (d0.asList (.base .cell)).bind fun a0 => some ⟨a0⟩
 | _ => none
theorem of_notebook_some {ds : List D} {x : GNotebook} (h : of_notebook ds = some x) : Base.cells .notebook x = ds := by
 unfold of_notebook at h
 split at h
 ·simp only [Option.bind_eq_some_iff, Option.some.injEq] at h
  obtain ⟨a0, h0, rfl⟩ := h
  simp only [Base.cells, D.asList_some h0]
 ·cases h
def of_part : List D -> Option GPart
 | [.int .i64 a0, .str a1, .int .i64 a2, .int .i64 a3, .str a4, d5, .int .i64 a6, .int .i64 a7, .int .i64 a8, .str a9, d10, d11, d12, .int .i64 a13] => (d5.asList (.base .expr)).bind fun a5 => (d10.asList (.base .val)).bind fun a10 => (d11.asList (.base .str)).bind fun a11 => (d12.asList (.base .row)).bind fun a12 => some ⟨a0, a1, ⟨a2, a3, a4, a5⟩, ⟨a6, a7, a8, a9, a10, a11, a12⟩, a13⟩
 | _ => none
theorem of_part_some {ds : List D} {x : GPart} (h : of_part ds = some x) : Base.cells .part x = ds := by
 unfold of_part at h
 split at h
 ·simp only [Option.bind_eq_some_iff, Option.some.injEq] at h
  obtain ⟨a5, h5, a10, h10, a11, h11, a12, h12, rfl⟩ := h
  simp only [Base.cells, D.asList_some h5, D.asList_some h10, D.asList_some h11, D.asList_some h12]
 ·cases h
def of_rd : List D -> Option GRd
 | [d0, .int .i64 a1, .int .i64 a2, .int .i64 a3] => (d0.asList (.base .token)).bind fun a0 => some ⟨a0, a1, a2, a3⟩
 | _ => none
theorem of_rd_some {ds : List D} {x : GRd} (h : of_rd ds = some x) : Base.cells .rd x = ds := by
 unfold of_rd at h
 split at h
 ·simp only [Option.bind_eq_some_iff, Option.some.injEq] at h
  obtain ⟨a0, h0, rfl⟩ := h
  simp only [Base.cells, D.asList_some h0]
 ·cases h
def of_psr : List D -> Option GPsr
 | [d0, .int .i64 a1, .int .i64 a2] => (d0.asList (.base .token)).bind fun a0 => some ⟨a0, a1, a2⟩
 | _ => none
theorem of_psr_some {ds : List D} {x : GPsr} (h : of_psr ds = some x) : Base.cells .psr x = ds := by
 unfold of_psr at h
 split at h
 ·simp only [Option.bind_eq_some_iff, Option.some.injEq] at h
  obtain ⟨a0, h0, rfl⟩ := h
  simp only [Base.cells, D.asList_some h0]
 ·cases h
def Base.ofCells : (b : Base) -> List D -> Option b.den
 | .int, ds => match ds with | [.int .i64 n] => some n | _ => none
 | .u8, ds => match ds with | [.int .u8 n] => some n | _ => none
 | .bool, ds => match ds with | [.bool b] => some b | _ => none
 | .str, ds => match ds with | [.str s] => some s | _ => none
 | .origin, ds => of_origin ds
 | .row, ds => of_row ds
 | .val, ds => of_val ds
 | .token, ds => of_token ds
 | .expr, ds => of_expr ds
 | .cell, ds => of_cell ds
 | .notebook, ds => of_notebook ds
 | .part, ds => of_part ds
 | .rd, ds => of_rd ds
 | .psr, ds => of_psr ds
theorem Base.ofCells_some {b : Base} {ds : List D} {x : b.den} (h : b.ofCells ds = some x) : b.cells x = ds := by
 cases b
 case int => simp only [Base.ofCells] at h; split at h <;> simp_all [Base.cells]
 case u8 => simp only [Base.ofCells] at h; split at h <;> simp_all [Base.cells]
 case bool => simp only [Base.ofCells] at h; split at h <;> simp_all [Base.cells]
 case str => simp only [Base.ofCells] at h; split at h <;> simp_all [Base.cells]
 case origin => exact of_origin_some h
 case row => exact of_row_some h
 case val => exact of_val_some h
 case token => exact of_token_some h
 case expr => exact of_expr_some h
 case cell => exact of_cell_some h
 case notebook => exact of_notebook_some h
 case part => exact of_part_some h
 case rd => exact of_rd_some h
 case psr => exact of_psr_some h
def Base.zero : (b : Base) -> b.den
 | .int => (0 : Int) | .u8 => (0 : Int) | .bool => false | .str => ([] : Str)
 | .origin => ⟨0, 0⟩
 | .row => ⟨[], []⟩
 | .val => ⟨0, 0, 0, [], [], [], []⟩
 | .token => ⟨0, 0, 0, []⟩
 | .expr => ⟨0, 0, [], []⟩
 | .cell => ⟨0, 0, 0, [], [], 0⟩
 | .notebook => ⟨[]⟩
 | .part => ⟨0, [], ⟨0, 0, [], []⟩, ⟨0, 0, 0, [], [], [], []⟩, 0⟩
 | .rd => ⟨[], 0, 0, 0⟩
 | .psr => ⟨[], 0, 0⟩
def Ty.size : Ty -> Nat
 | .base b => b.size
 | .list _ => 1
def Ty.cells : (t : Ty) -> t.den -> List D
 | .base b, x => b.cells x
 | .list t, xs => [.list t xs]
theorem Ty.cells_length (t : Ty) (x : t.den) : (t.cells x).length = t.size := by
 cases t with
 | base b => exact Base.cells_length b x
 | list t => rfl
def Ty.ofCells : (t : Ty) -> List D -> Option t.den
 | .base b, ds => b.ofCells ds
 | .list t, ds => match ds with | [d] => d.asList t | _ => none
theorem Ty.ofCells_some {t : Ty} {ds : List D} {x : t.den} (h : t.ofCells ds = some x) : t.cells x = ds := by
 cases t with
 | base b => exact Base.ofCells_some h
 | list t =>
  simp only [Ty.ofCells] at h
  split at h
  ·simp only [Ty.cells, D.asList_some h]
  ·cases h
def Ty.zero : (t : Ty) -> t.den
 | .base b => b.zero
 | .list t => ([] : List t.den)
theorem Ty.size_pos (t : Ty) : 0 < t.size := by
 cases t with
 | base b => cases b <;> decide
 | list t => exact Nat.one_pos
end Go.Abs
