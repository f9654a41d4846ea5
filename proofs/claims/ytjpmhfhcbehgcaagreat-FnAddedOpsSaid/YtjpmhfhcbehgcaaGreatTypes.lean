/- Typed data for the Go structures of the program, and the universe of one-cell data. Written by gentypes.py. -/
import Derived.WalkKit
namespace Go.Abs
abbrev Str := List UInt8

structure GOrigin where
  cell : Int
  row : Int

structure GRow where
  cells : List Int
  orig : List GOrigin

structure GVal where
  kind : Int
  n : Int
  step : Int
  text : Str
  list : List GVal
  columns : List Str
  rows : List GRow

structure GToken where
  kind : Int
  n : Int
  pos : Int
  text : Str

structure GExpr where
  kind : Int
  n : Int
  text : Str
  args : List GExpr

structure GFile where
  name : Str
  n : Int

structure GRead where
  kind : Int
  n : Int
  time : Int
  text : Str
  result : GVal

structure GBinding where
  name : Str
  value : GVal

structure GCell where
  id : Int
  version : Int
  kind : Int
  name : Str
  code : Str
  n : Int

structure GEdit where
  kind : Int
  pos : Int
  cell : GCell

structure GTape where
  cell : Int
  version : Int
  reads : List GRead

structure GNode where
  parent : Int
  edits : List GEdit
  undo : List GEdit

structure GNotebook where
  cells : List GCell

structure GHistory where
  notebook : GNotebook
  nodes : List GNode
  pos : Int

structure GOp where
  time : Int
  by_ : Int
  kind : Int
  seen : List Int
  edit : GEdit
  src : Str
  dst : Str
  cell : Int
  version : Int
  reads : List GRead

structure GDocument where
  notebook : GNotebook
  tapes : List GTape
  renames : List GOp

structure GReplica where
  id : Int
  ops : List GOp

structure GWorld where
  clock : Int
  seed : Int
  files : List GFile

structure GEntry where
  cell : Int
  version : Int
  stamp : Int
  inputs : List Int
  value : GVal
  has : Bool

structure GEngine where
  notebook : GNotebook
  world : GWorld
  tapes : List GTape
  entries : List GEntry
  next : Int
  limit : Int
  work : Int

structure GCur where
  b : List Int
  i : Int
  h : Int

structure GPart where
  kind : Int
  name : Str
  expr : GExpr
  value : GVal
  pos : Int

structure GRd where
  toks : List GToken
  i : Int
  stop : Int
  bad : Int

structure GPsr where
  toks : List GToken
  i : Int
  bad : Int

def reVal (x : GVal) : GVal := ⟨x.kind, x.n, x.step, x.text, x.list, x.columns, x.rows⟩
theorem reVal_eq (x : GVal) : reVal x = x := by cases x; simp [reVal]
def reExpr (x : GExpr) : GExpr := ⟨x.kind, x.n, x.text, x.args⟩
theorem reExpr_eq (x : GExpr) : reExpr x = x := by cases x; simp [reExpr]
def reRead (x : GRead) : GRead := ⟨x.kind, x.n, x.time, x.text, reVal x.result⟩
theorem reRead_eq (x : GRead) : reRead x = x := by cases x; simp [reRead, reVal_eq]
def reBinding (x : GBinding) : GBinding := ⟨x.name, reVal x.value⟩
theorem reBinding_eq (x : GBinding) : reBinding x = x := by cases x; simp [reBinding, reVal_eq]
def reEntry (x : GEntry) : GEntry := ⟨x.cell, x.version, x.stamp, x.inputs, reVal x.value, x.has⟩
theorem reEntry_eq (x : GEntry) : reEntry x = x := by cases x; simp [reEntry, reVal_eq]
def rePart (x : GPart) : GPart := ⟨x.kind, x.name, reExpr x.expr, reVal x.value, x.pos⟩
theorem rePart_eq (x : GPart) : rePart x = x := by cases x; simp [rePart, reExpr_eq, reVal_eq]
inductive Base where
  | int | u8 | bool | str | origin | row | val | token | expr | file | read | binding | cell | edit | tape | node | notebook | history | op | document | replica | world | entry | engine | cur | part | rd | psr
  deriving DecidableEq

inductive Ty where
  | base (b : Base)
  | list (t : Ty)
  deriving DecidableEq

abbrev Base.den : Base → Type
  | .int => Int | .u8 => Int | .bool => Bool | .str => Str
  | .origin => GOrigin
  | .row => GRow
  | .val => GVal
  | .token => GToken
  | .expr => GExpr
  | .file => GFile
  | .read => GRead
  | .binding => GBinding
  | .cell => GCell
  | .edit => GEdit
  | .tape => GTape
  | .node => GNode
  | .notebook => GNotebook
  | .history => GHistory
  | .op => GOp
  | .document => GDocument
  | .replica => GReplica
  | .world => GWorld
  | .entry => GEntry
  | .engine => GEngine
  | .cur => GCur
  | .part => GPart
  | .rd => GRd
  | .psr => GPsr

abbrev Ty.den : Ty → Type
  | .base b => b.den
  | .list t => List t.den

/-- One-cell data. -/
inductive D where
  | int (k : IntKind) (n : Int)
  | bool (b : Bool)
  | str (s : Str)
  | list (t : Ty) (xs : List t.den)

def D.asList (t : Ty) : D → Option (List t.den)
  | .list t' xs => if h : t' = t then some (h ▸ xs) else none
  | _ => none

theorem D.asList_some {t : Ty} {d : D} {xs : List t.den} (h : d.asList t = some xs) : d = .list t xs := by
  cases d with
  | list t' ys =>
    simp only [D.asList] at h
    split at h
    · rename_i e; subst e; simp at h; rw [h]
    · cases h
  | _ => simp [D.asList] at h

theorem D.asList_self (t : Ty) (xs : List t.den) : (D.list t xs).asList t = some xs := by simp [D.asList]

def Base.size : Base → Nat
  | .int => 1 | .u8 => 1 | .bool => 1 | .str => 1
  | .origin => 2
  | .row => 2
  | .val => 7
  | .token => 4
  | .expr => 4
  | .file => 2
  | .read => 11
  | .binding => 8
  | .cell => 6
  | .edit => 8
  | .tape => 3
  | .node => 3
  | .notebook => 1
  | .history => 3
  | .op => 17
  | .document => 3
  | .replica => 2
  | .world => 3
  | .entry => 12
  | .engine => 9
  | .cur => 3
  | .part => 14
  | .rd => 4
  | .psr => 3

def Base.cells : (b : Base) → b.den → List D
  | .int, n => [.int .i64 n] | .u8, c => [.int .u8 c] | .bool, b => [.bool b] | .str, s => [.str s]
  | .origin, x => [.int .i64 x.cell, .int .i64 x.row]
  | .row, x => [.list (.base .int) x.cells, .list (.base .origin) x.orig]
  | .val, x => [.int .i64 x.kind, .int .i64 x.n, .int .i64 x.step, .str x.text, .list (.base .val) x.list, .list (.base .str) x.columns, .list (.base .row) x.rows]
  | .token, x => [.int .i64 x.kind, .int .i64 x.n, .int .i64 x.pos, .str x.text]
  | .expr, x => [.int .i64 x.kind, .int .i64 x.n, .str x.text, .list (.base .expr) x.args]
  | .file, x => [.str x.name, .int .i64 x.n]
  | .read, x => [.int .i64 x.kind, .int .i64 x.n, .int .i64 x.time, .str x.text, .int .i64 x.result.kind, .int .i64 x.result.n, .int .i64 x.result.step, .str x.result.text, .list (.base .val) x.result.list, .list (.base .str) x.result.columns, .list (.base .row) x.result.rows]
  | .binding, x => [.str x.name, .int .i64 x.value.kind, .int .i64 x.value.n, .int .i64 x.value.step, .str x.value.text, .list (.base .val) x.value.list, .list (.base .str) x.value.columns, .list (.base .row) x.value.rows]
  | .cell, x => [.int .i64 x.id, .int .i64 x.version, .int .i64 x.kind, .str x.name, .str x.code, .int .i64 x.n]
  | .edit, x => [.int .i64 x.kind, .int .i64 x.pos, .int .i64 x.cell.id, .int .i64 x.cell.version, .int .i64 x.cell.kind, .str x.cell.name, .str x.cell.code, .int .i64 x.cell.n]
  | .tape, x => [.int .i64 x.cell, .int .i64 x.version, .list (.base .read) x.reads]
  | .node, x => [.int .i64 x.parent, .list (.base .edit) x.edits, .list (.base .edit) x.undo]
  | .notebook, x => [.list (.base .cell) x.cells]
  | .history, x => [.list (.base .cell) x.notebook.cells, .list (.base .node) x.nodes, .int .i64 x.pos]
  | .op, x => [.int .i64 x.time, .int .i64 x.by_, .int .i64 x.kind, .list (.base .int) x.seen, .int .i64 x.edit.kind, .int .i64 x.edit.pos, .int .i64 x.edit.cell.id, .int .i64 x.edit.cell.version, .int .i64 x.edit.cell.kind, .str x.edit.cell.name, .str x.edit.cell.code, .int .i64 x.edit.cell.n, .str x.src, .str x.dst, .int .i64 x.cell, .int .i64 x.version, .list (.base .read) x.reads]
  | .document, x => [.list (.base .cell) x.notebook.cells, .list (.base .tape) x.tapes, .list (.base .op) x.renames]
  | .replica, x => [.int .i64 x.id, .list (.base .op) x.ops]
  | .world, x => [.int .i64 x.clock, .int .i64 x.seed, .list (.base .file) x.files]
  | .entry, x => [.int .i64 x.cell, .int .i64 x.version, .int .i64 x.stamp, .list (.base .int) x.inputs, .int .i64 x.value.kind, .int .i64 x.value.n, .int .i64 x.value.step, .str x.value.text, .list (.base .val) x.value.list, .list (.base .str) x.value.columns, .list (.base .row) x.value.rows, .bool x.has]
  | .engine, x => [.list (.base .cell) x.notebook.cells, .int .i64 x.world.clock, .int .i64 x.world.seed, .list (.base .file) x.world.files, .list (.base .tape) x.tapes, .list (.base .entry) x.entries, .int .i64 x.next, .int .i64 x.limit, .int .i64 x.work]
  | .cur, x => [.list (.base .u8) x.b, .int .i64 x.i, .int .i64 x.h]
  | .part, x => [.int .i64 x.kind, .str x.name, .int .i64 x.expr.kind, .int .i64 x.expr.n, .str x.expr.text, .list (.base .expr) x.expr.args, .int .i64 x.value.kind, .int .i64 x.value.n, .int .i64 x.value.step, .str x.value.text, .list (.base .val) x.value.list, .list (.base .str) x.value.columns, .list (.base .row) x.value.rows, .int .i64 x.pos]
  | .rd, x => [.list (.base .token) x.toks, .int .i64 x.i, .int .i64 x.stop, .int .i64 x.bad]
  | .psr, x => [.list (.base .token) x.toks, .int .i64 x.i, .int .i64 x.bad]

theorem Base.cells_length (b : Base) (x : b.den) : (b.cells x).length = b.size := by cases b <;> rfl

def of_origin : List D → Option GOrigin
  | [.int .i64 a0, .int .i64 a1] => some ⟨a0, a1⟩
  | _ => none
theorem of_origin_some {ds : List D} {x : GOrigin} (h : of_origin ds = some x) : Base.cells .origin x = ds := by
  unfold of_origin at h
  split at h
  · simp only [Option.some.injEq] at h
    subst h; rfl
  · cases h

def of_row : List D → Option GRow
  | [d0, d1] => (d0.asList (.base .int)).bind fun a0 => (d1.asList (.base .origin)).bind fun a1 => some ⟨a0, a1⟩
  | _ => none
theorem of_row_some {ds : List D} {x : GRow} (h : of_row ds = some x) : Base.cells .row x = ds := by
  unfold of_row at h
  split at h
  · simp only [Option.bind_eq_some_iff, Option.some.injEq] at h
    obtain ⟨a0, h0, a1, h1, rfl⟩ := h
    simp only [Base.cells, D.asList_some h0, D.asList_some h1]
  · cases h

def of_val : List D → Option GVal
  | [.int .i64 a0, .int .i64 a1, .int .i64 a2, .str a3, d4, d5, d6] => (d4.asList (.base .val)).bind fun a4 => (d5.asList (.base .str)).bind fun a5 => (d6.asList (.base .row)).bind fun a6 => some ⟨a0, a1, a2, a3, a4, a5, a6⟩
  | _ => none
theorem of_val_some {ds : List D} {x : GVal} (h : of_val ds = some x) : Base.cells .val x = ds := by
  unfold of_val at h
  split at h
  · simp only [Option.bind_eq_some_iff, Option.some.injEq] at h
    obtain ⟨a4, h4, a5, h5, a6, h6, rfl⟩ := h
    simp only [Base.cells, D.asList_some h4, D.asList_some h5, D.asList_some h6]
  · cases h

def of_token : List D → Option GToken
  | [.int .i64 a0, .int .i64 a1, .int .i64 a2, .str a3] => some ⟨a0, a1, a2, a3⟩
  | _ => none
theorem of_token_some {ds : List D} {x : GToken} (h : of_token ds = some x) : Base.cells .token x = ds := by
  unfold of_token at h
  split at h
  · simp only [Option.some.injEq] at h
    subst h; rfl
  · cases h

def of_expr : List D → Option GExpr
  | [.int .i64 a0, .int .i64 a1, .str a2, d3] => (d3.asList (.base .expr)).bind fun a3 => some ⟨a0, a1, a2, a3⟩
  | _ => none
theorem of_expr_some {ds : List D} {x : GExpr} (h : of_expr ds = some x) : Base.cells .expr x = ds := by
  unfold of_expr at h
  split at h
  · simp only [Option.bind_eq_some_iff, Option.some.injEq] at h
    obtain ⟨a3, h3, rfl⟩ := h
    simp only [Base.cells, D.asList_some h3]
  · cases h

def of_file : List D → Option GFile
  | [.str a0, .int .i64 a1] => some ⟨a0, a1⟩
  | _ => none
theorem of_file_some {ds : List D} {x : GFile} (h : of_file ds = some x) : Base.cells .file x = ds := by
  unfold of_file at h
  split at h
  · simp only [Option.some.injEq] at h
    subst h; rfl
  · cases h

def of_read : List D → Option GRead
  | [.int .i64 a0, .int .i64 a1, .int .i64 a2, .str a3, .int .i64 a4, .int .i64 a5, .int .i64 a6, .str a7, d8, d9, d10] => (d8.asList (.base .val)).bind fun a8 => (d9.asList (.base .str)).bind fun a9 => (d10.asList (.base .row)).bind fun a10 => some ⟨a0, a1, a2, a3, ⟨a4, a5, a6, a7, a8, a9, a10⟩⟩
  | _ => none
theorem of_read_some {ds : List D} {x : GRead} (h : of_read ds = some x) : Base.cells .read x = ds := by
  unfold of_read at h
  split at h
  · simp only [Option.bind_eq_some_iff, Option.some.injEq] at h
    obtain ⟨a8, h8, a9, h9, a10, h10, rfl⟩ := h
    simp only [Base.cells, D.asList_some h8, D.asList_some h9, D.asList_some h10]
  · cases h

def of_binding : List D → Option GBinding
  | [.str a0, .int .i64 a1, .int .i64 a2, .int .i64 a3, .str a4, d5, d6, d7] => (d5.asList (.base .val)).bind fun a5 => (d6.asList (.base .str)).bind fun a6 => (d7.asList (.base .row)).bind fun a7 => some ⟨a0, ⟨a1, a2, a3, a4, a5, a6, a7⟩⟩
  | _ => none
theorem of_binding_some {ds : List D} {x : GBinding} (h : of_binding ds = some x) : Base.cells .binding x = ds := by
  unfold of_binding at h
  split at h
  · simp only [Option.bind_eq_some_iff, Option.some.injEq] at h
    obtain ⟨a5, h5, a6, h6, a7, h7, rfl⟩ := h
    simp only [Base.cells, D.asList_some h5, D.asList_some h6, D.asList_some h7]
  · cases h

def of_cell : List D → Option GCell
  | [.int .i64 a0, .int .i64 a1, .int .i64 a2, .str a3, .str a4, .int .i64 a5] => some ⟨a0, a1, a2, a3, a4, a5⟩
  | _ => none
theorem of_cell_some {ds : List D} {x : GCell} (h : of_cell ds = some x) : Base.cells .cell x = ds := by
  unfold of_cell at h
  split at h
  · simp only [Option.some.injEq] at h
    subst h; rfl
  · cases h

def of_edit : List D → Option GEdit
  | [.int .i64 a0, .int .i64 a1, .int .i64 a2, .int .i64 a3, .int .i64 a4, .str a5, .str a6, .int .i64 a7] => some ⟨a0, a1, ⟨a2, a3, a4, a5, a6, a7⟩⟩
  | _ => none
theorem of_edit_some {ds : List D} {x : GEdit} (h : of_edit ds = some x) : Base.cells .edit x = ds := by
  unfold of_edit at h
  split at h
  · simp only [Option.some.injEq] at h
    subst h; rfl
  · cases h

def of_tape : List D → Option GTape
  | [.int .i64 a0, .int .i64 a1, d2] => (d2.asList (.base .read)).bind fun a2 => some ⟨a0, a1, a2⟩
  | _ => none
theorem of_tape_some {ds : List D} {x : GTape} (h : of_tape ds = some x) : Base.cells .tape x = ds := by
  unfold of_tape at h
  split at h
  · simp only [Option.bind_eq_some_iff, Option.some.injEq] at h
    obtain ⟨a2, h2, rfl⟩ := h
    simp only [Base.cells, D.asList_some h2]
  · cases h

def of_node : List D → Option GNode
  | [.int .i64 a0, d1, d2] => (d1.asList (.base .edit)).bind fun a1 => (d2.asList (.base .edit)).bind fun a2 => some ⟨a0, a1, a2⟩
  | _ => none
theorem of_node_some {ds : List D} {x : GNode} (h : of_node ds = some x) : Base.cells .node x = ds := by
  unfold of_node at h
  split at h
  · simp only [Option.bind_eq_some_iff, Option.some.injEq] at h
    obtain ⟨a1, h1, a2, h2, rfl⟩ := h
    simp only [Base.cells, D.asList_some h1, D.asList_some h2]
  · cases h

def of_notebook : List D → Option GNotebook
  | [d0] => (d0.asList (.base .cell)).bind fun a0 => some ⟨a0⟩
  | _ => none
theorem of_notebook_some {ds : List D} {x : GNotebook} (h : of_notebook ds = some x) : Base.cells .notebook x = ds := by
  unfold of_notebook at h
  split at h
  · simp only [Option.bind_eq_some_iff, Option.some.injEq] at h
    obtain ⟨a0, h0, rfl⟩ := h
    simp only [Base.cells, D.asList_some h0]
  · cases h

def of_history : List D → Option GHistory
  | [d0, d1, .int .i64 a2] => (d0.asList (.base .cell)).bind fun a0 => (d1.asList (.base .node)).bind fun a1 => some ⟨⟨a0⟩, a1, a2⟩
  | _ => none
theorem of_history_some {ds : List D} {x : GHistory} (h : of_history ds = some x) : Base.cells .history x = ds := by
  unfold of_history at h
  split at h
  · simp only [Option.bind_eq_some_iff, Option.some.injEq] at h
    obtain ⟨a0, h0, a1, h1, rfl⟩ := h
    simp only [Base.cells, D.asList_some h0, D.asList_some h1]
  · cases h

def of_op : List D → Option GOp
  | [.int .i64 a0, .int .i64 a1, .int .i64 a2, d3, .int .i64 a4, .int .i64 a5, .int .i64 a6, .int .i64 a7, .int .i64 a8, .str a9, .str a10, .int .i64 a11, .str a12, .str a13, .int .i64 a14, .int .i64 a15, d16] => (d3.asList (.base .int)).bind fun a3 => (d16.asList (.base .read)).bind fun a16 => some ⟨a0, a1, a2, a3, ⟨a4, a5, ⟨a6, a7, a8, a9, a10, a11⟩⟩, a12, a13, a14, a15, a16⟩
  | _ => none
theorem of_op_some {ds : List D} {x : GOp} (h : of_op ds = some x) : Base.cells .op x = ds := by
  unfold of_op at h
  split at h
  · simp only [Option.bind_eq_some_iff, Option.some.injEq] at h
    obtain ⟨a3, h3, a16, h16, rfl⟩ := h
    simp only [Base.cells, D.asList_some h3, D.asList_some h16]
  · cases h

def of_document : List D → Option GDocument
  | [d0, d1, d2] => (d0.asList (.base .cell)).bind fun a0 => (d1.asList (.base .tape)).bind fun a1 => (d2.asList (.base .op)).bind fun a2 => some ⟨⟨a0⟩, a1, a2⟩
  | _ => none
theorem of_document_some {ds : List D} {x : GDocument} (h : of_document ds = some x) : Base.cells .document x = ds := by
  unfold of_document at h
  split at h
  · simp only [Option.bind_eq_some_iff, Option.some.injEq] at h
    obtain ⟨a0, h0, a1, h1, a2, h2, rfl⟩ := h
    simp only [Base.cells, D.asList_some h0, D.asList_some h1, D.asList_some h2]
  · cases h

def of_replica : List D → Option GReplica
  | [.int .i64 a0, d1] => (d1.asList (.base .op)).bind fun a1 => some ⟨a0, a1⟩
  | _ => none
theorem of_replica_some {ds : List D} {x : GReplica} (h : of_replica ds = some x) : Base.cells .replica x = ds := by
  unfold of_replica at h
  split at h
  · simp only [Option.bind_eq_some_iff, Option.some.injEq] at h
    obtain ⟨a1, h1, rfl⟩ := h
    simp only [Base.cells, D.asList_some h1]
  · cases h

def of_world : List D → Option GWorld
  | [.int .i64 a0, .int .i64 a1, d2] => (d2.asList (.base .file)).bind fun a2 => some ⟨a0, a1, a2⟩
  | _ => none
theorem of_world_some {ds : List D} {x : GWorld} (h : of_world ds = some x) : Base.cells .world x = ds := by
  unfold of_world at h
  split at h
  · simp only [Option.bind_eq_some_iff, Option.some.injEq] at h
    obtain ⟨a2, h2, rfl⟩ := h
    simp only [Base.cells, D.asList_some h2]
  · cases h

def of_entry : List D → Option GEntry
  | [.int .i64 a0, .int .i64 a1, .int .i64 a2, d3, .int .i64 a4, .int .i64 a5, .int .i64 a6, .str a7, d8, d9, d10, .bool a11] => (d3.asList (.base .int)).bind fun a3 => (d8.asList (.base .val)).bind fun a8 => (d9.asList (.base .str)).bind fun a9 => (d10.asList (.base .row)).bind fun a10 => some ⟨a0, a1, a2, a3, ⟨a4, a5, a6, a7, a8, a9, a10⟩, a11⟩
  | _ => none
theorem of_entry_some {ds : List D} {x : GEntry} (h : of_entry ds = some x) : Base.cells .entry x = ds := by
  unfold of_entry at h
  split at h
  · simp only [Option.bind_eq_some_iff, Option.some.injEq] at h
    obtain ⟨a3, h3, a8, h8, a9, h9, a10, h10, rfl⟩ := h
    simp only [Base.cells, D.asList_some h3, D.asList_some h8, D.asList_some h9, D.asList_some h10]
  · cases h

def of_engine : List D → Option GEngine
  | [d0, .int .i64 a1, .int .i64 a2, d3, d4, d5, .int .i64 a6, .int .i64 a7, .int .i64 a8] => (d0.asList (.base .cell)).bind fun a0 => (d3.asList (.base .file)).bind fun a3 => (d4.asList (.base .tape)).bind fun a4 => (d5.asList (.base .entry)).bind fun a5 => some ⟨⟨a0⟩, ⟨a1, a2, a3⟩, a4, a5, a6, a7, a8⟩
  | _ => none
theorem of_engine_some {ds : List D} {x : GEngine} (h : of_engine ds = some x) : Base.cells .engine x = ds := by
  unfold of_engine at h
  split at h
  · simp only [Option.bind_eq_some_iff, Option.some.injEq] at h
    obtain ⟨a0, h0, a3, h3, a4, h4, a5, h5, rfl⟩ := h
    simp only [Base.cells, D.asList_some h0, D.asList_some h3, D.asList_some h4, D.asList_some h5]
  · cases h

def of_cur : List D → Option GCur
  | [d0, .int .i64 a1, .int .i64 a2] => (d0.asList (.base .u8)).bind fun a0 => some ⟨a0, a1, a2⟩
  | _ => none
theorem of_cur_some {ds : List D} {x : GCur} (h : of_cur ds = some x) : Base.cells .cur x = ds := by
  unfold of_cur at h
  split at h
  · simp only [Option.bind_eq_some_iff, Option.some.injEq] at h
    obtain ⟨a0, h0, rfl⟩ := h
    simp only [Base.cells, D.asList_some h0]
  · cases h

def of_part : List D → Option GPart
  | [.int .i64 a0, .str a1, .int .i64 a2, .int .i64 a3, .str a4, d5, .int .i64 a6, .int .i64 a7, .int .i64 a8, .str a9, d10, d11, d12, .int .i64 a13] => (d5.asList (.base .expr)).bind fun a5 => (d10.asList (.base .val)).bind fun a10 => (d11.asList (.base .str)).bind fun a11 => (d12.asList (.base .row)).bind fun a12 => some ⟨a0, a1, ⟨a2, a3, a4, a5⟩, ⟨a6, a7, a8, a9, a10, a11, a12⟩, a13⟩
  | _ => none
theorem of_part_some {ds : List D} {x : GPart} (h : of_part ds = some x) : Base.cells .part x = ds := by
  unfold of_part at h
  split at h
  · simp only [Option.bind_eq_some_iff, Option.some.injEq] at h
    obtain ⟨a5, h5, a10, h10, a11, h11, a12, h12, rfl⟩ := h
    simp only [Base.cells, D.asList_some h5, D.asList_some h10, D.asList_some h11, D.asList_some h12]
  · cases h

def of_rd : List D → Option GRd
  | [d0, .int .i64 a1, .int .i64 a2, .int .i64 a3] => (d0.asList (.base .token)).bind fun a0 => some ⟨a0, a1, a2, a3⟩
  | _ => none
theorem of_rd_some {ds : List D} {x : GRd} (h : of_rd ds = some x) : Base.cells .rd x = ds := by
  unfold of_rd at h
  split at h
  · simp only [Option.bind_eq_some_iff, Option.some.injEq] at h
    obtain ⟨a0, h0, rfl⟩ := h
    simp only [Base.cells, D.asList_some h0]
  · cases h

def of_psr : List D → Option GPsr
  | [d0, .int .i64 a1, .int .i64 a2] => (d0.asList (.base .token)).bind fun a0 => some ⟨a0, a1, a2⟩
  | _ => none
theorem of_psr_some {ds : List D} {x : GPsr} (h : of_psr ds = some x) : Base.cells .psr x = ds := by
  unfold of_psr at h
  split at h
  · simp only [Option.bind_eq_some_iff, Option.some.injEq] at h
    obtain ⟨a0, h0, rfl⟩ := h
    simp only [Base.cells, D.asList_some h0]
  · cases h

def Base.ofCells : (b : Base) → List D → Option b.den
  | .int, ds => match ds with | [.int .i64 n] => some n | _ => none
  | .u8, ds => match ds with | [.int .u8 n] => some n | _ => none
  | .bool, ds => match ds with | [.bool b] => some b | _ => none
  | .str, ds => match ds with | [.str s] => some s | _ => none
  | .origin, ds => of_origin ds
  | .row, ds => of_row ds
  | .val, ds => of_val ds
  | .token, ds => of_token ds
  | .expr, ds => of_expr ds
  | .file, ds => of_file ds
  | .read, ds => of_read ds
  | .binding, ds => of_binding ds
  | .cell, ds => of_cell ds
  | .edit, ds => of_edit ds
  | .tape, ds => of_tape ds
  | .node, ds => of_node ds
  | .notebook, ds => of_notebook ds
  | .history, ds => of_history ds
  | .op, ds => of_op ds
  | .document, ds => of_document ds
  | .replica, ds => of_replica ds
  | .world, ds => of_world ds
  | .entry, ds => of_entry ds
  | .engine, ds => of_engine ds
  | .cur, ds => of_cur ds
  | .part, ds => of_part ds
  | .rd, ds => of_rd ds
  | .psr, ds => of_psr ds

theorem Base.ofCells_some {b : Base} {ds : List D} {x : b.den} (h : b.ofCells ds = some x) : b.cells x = ds := by
  cases b
  case int => simp only [Base.ofCells] at h; split at h <;> simp_all [Base.cells]
  case u8 => simp only [Base.ofCells] at h; split at h <;> simp_all [Base.cells]
  case bool => simp only [Base.ofCells] at h; split at h <;> simp_all [Base.cells]
  case str => simp only [Base.ofCells] at h; split at h <;> simp_all [Base.cells]
  case origin => exact of_origin_some h
  case row => exact of_row_some h
  case val => exact of_val_some h
  case token => exact of_token_some h
  case expr => exact of_expr_some h
  case file => exact of_file_some h
  case read => exact of_read_some h
  case binding => exact of_binding_some h
  case cell => exact of_cell_some h
  case edit => exact of_edit_some h
  case tape => exact of_tape_some h
  case node => exact of_node_some h
  case notebook => exact of_notebook_some h
  case history => exact of_history_some h
  case op => exact of_op_some h
  case document => exact of_document_some h
  case replica => exact of_replica_some h
  case world => exact of_world_some h
  case entry => exact of_entry_some h
  case engine => exact of_engine_some h
  case cur => exact of_cur_some h
  case part => exact of_part_some h
  case rd => exact of_rd_some h
  case psr => exact of_psr_some h

def Base.zero : (b : Base) → b.den
  | .int => (0 : Int) | .u8 => (0 : Int) | .bool => false | .str => ([] : Str)
  | .origin => ⟨0, 0⟩
  | .row => ⟨[], []⟩
  | .val => ⟨0, 0, 0, [], [], [], []⟩
  | .token => ⟨0, 0, 0, []⟩
  | .expr => ⟨0, 0, [], []⟩
  | .file => ⟨[], 0⟩
  | .read => ⟨0, 0, 0, [], ⟨0, 0, 0, [], [], [], []⟩⟩
  | .binding => ⟨[], ⟨0, 0, 0, [], [], [], []⟩⟩
  | .cell => ⟨0, 0, 0, [], [], 0⟩
  | .edit => ⟨0, 0, ⟨0, 0, 0, [], [], 0⟩⟩
  | .tape => ⟨0, 0, []⟩
  | .node => ⟨0, [], []⟩
  | .notebook => ⟨[]⟩
  | .history => ⟨⟨[]⟩, [], 0⟩
  | .op => ⟨0, 0, 0, [], ⟨0, 0, ⟨0, 0, 0, [], [], 0⟩⟩, [], [], 0, 0, []⟩
  | .document => ⟨⟨[]⟩, [], []⟩
  | .replica => ⟨0, []⟩
  | .world => ⟨0, 0, []⟩
  | .entry => ⟨0, 0, 0, [], ⟨0, 0, 0, [], [], [], []⟩, false⟩
  | .engine => ⟨⟨[]⟩, ⟨0, 0, []⟩, [], [], 0, 0, 0⟩
  | .cur => ⟨[], 0, 0⟩
  | .part => ⟨0, [], ⟨0, 0, [], []⟩, ⟨0, 0, 0, [], [], [], []⟩, 0⟩
  | .rd => ⟨[], 0, 0, 0⟩
  | .psr => ⟨[], 0, 0⟩

def Ty.size : Ty → Nat
  | .base b => b.size
  | .list _ => 1
def Ty.cells : (t : Ty) → t.den → List D
  | .base b, x => b.cells x
  | .list t, xs => [.list t xs]
theorem Ty.cells_length (t : Ty) (x : t.den) : (t.cells x).length = t.size := by
  cases t with
  | base b => exact Base.cells_length b x
  | list t => rfl
def Ty.ofCells : (t : Ty) → List D → Option t.den
  | .base b, ds => b.ofCells ds
  | .list t, ds => match ds with | [d] => d.asList t | _ => none
theorem Ty.ofCells_some {t : Ty} {ds : List D} {x : t.den} (h : t.ofCells ds = some x) : t.cells x = ds := by
  cases t with
  | base b => exact Base.ofCells_some h
  | list t =>
    simp only [Ty.ofCells] at h
    split at h
    · simp only [Ty.cells, D.asList_some h]
    · cases h
def Ty.zero : (t : Ty) → t.den
  | .base b => b.zero
  | .list t => ([] : List t.den)
theorem Ty.size_pos (t : Ty) : 0 < t.size := by
  cases t with
  | base b => cases b <;> decide
  | list t => exact Nat.one_pos
end Go.Abs
