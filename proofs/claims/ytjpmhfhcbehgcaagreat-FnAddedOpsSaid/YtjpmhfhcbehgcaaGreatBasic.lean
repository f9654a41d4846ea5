/- Sizes, copies and equality of this translation, by genbasic.py. -/
import Derived.Test.YtjpmhfhcbehgcaaGreatBasic0
set_option linter.unusedSimpArgs false
set_option linter.unusedVariables false
namespace Go.Proofs.YtjpmhfhcbehgcaaGreat
open Go.Abs Go.Proofs
theorem siz_list {v : GVal} : siz v.list < siz v := by
  cases v; simp only [siz]; rw [GVal.mk.sizeOf_spec]; omega
theorem siz_mem {α : Type} [SizeOf α] {x : α} {xs : List α} (h : x ∈ xs) : siz x < siz xs := List.sizeOf_lt_of_mem h
theorem fit_origin {L : Nat} {x : GOrigin} : Fit L (.base .origin) x ↔ FitD L (.int .i64 x.cell) ∧ FitD L (.int .i64 x.row) := by
  simp only [Fit, Ty.cells, Base.cells, List.mem_cons, List.not_mem_nil, or_false, forall_eq_or_imp, forall_eq]
theorem fit_row {L : Nat} {x : GRow} : Fit L (.base .row) x ↔ FitD L (.list (.base .int) x.cells) ∧ FitD L (.list (.base .origin) x.orig) := by
  simp only [Fit, Ty.cells, Base.cells, List.mem_cons, List.not_mem_nil, or_false, forall_eq_or_imp, forall_eq]
theorem fit_val {L : Nat} {x : GVal} : Fit L (.base .val) x ↔ FitD L (.int .i64 x.kind) ∧ FitD L (.int .i64 x.n) ∧ FitD L (.int .i64 x.step) ∧ FitD L (.str x.text) ∧ FitD L (.list (.base .val) x.list) ∧ FitD L (.list (.base .str) x.columns) ∧ FitD L (.list (.base .row) x.rows) := by
  simp only [Fit, Ty.cells, Base.cells, List.mem_cons, List.not_mem_nil, or_false, forall_eq_or_imp, forall_eq]
theorem fit_expr {L : Nat} {x : GExpr} : Fit L (.base .expr) x ↔ FitD L (.int .i64 x.kind) ∧ FitD L (.int .i64 x.n) ∧ FitD L (.str x.text) ∧ FitD L (.list (.base .expr) x.args) := by
  simp only [Fit, Ty.cells, Base.cells, List.mem_cons, List.not_mem_nil, or_false, forall_eq_or_imp, forall_eq]
theorem fit_read {L : Nat} {x : GRead} : Fit L (.base .read) x ↔ FitD L (.int .i64 x.kind) ∧ FitD L (.int .i64 x.n) ∧ FitD L (.int .i64 x.time) ∧ FitD L (.str x.text) ∧ Fit L (.base .val) x.result := by
  simp only [Fit, Ty.cells, Base.cells, List.mem_cons, List.not_mem_nil, or_false, forall_eq_or_imp, forall_eq, and_assoc]
theorem fit_cell {L : Nat} {x : GCell} : Fit L (.base .cell) x ↔ FitD L (.int .i64 x.id) ∧ FitD L (.int .i64 x.version) ∧ FitD L (.int .i64 x.kind) ∧ FitD L (.str x.name) ∧ FitD L (.str x.code) ∧ FitD L (.int .i64 x.n) := by
  simp only [Fit, Ty.cells, Base.cells, List.mem_cons, List.not_mem_nil, or_false, forall_eq_or_imp, forall_eq]
theorem fit_edit {L : Nat} {x : GEdit} : Fit L (.base .edit) x ↔ FitD L (.int .i64 x.kind) ∧ FitD L (.int .i64 x.pos) ∧ Fit L (.base .cell) x.cell := by
  simp only [Fit, Ty.cells, Base.cells, List.mem_cons, List.not_mem_nil, or_false, forall_eq_or_imp, forall_eq, and_assoc]
theorem fit_op {L : Nat} {x : GOp} : Fit L (.base .op) x ↔ FitD L (.int .i64 x.time) ∧ FitD L (.int .i64 x.by_) ∧ FitD L (.int .i64 x.kind) ∧ FitD L (.list (.base .int) x.seen) ∧ Fit L (.base .edit) x.edit ∧ FitD L (.str x.src) ∧ FitD L (.str x.dst) ∧ FitD L (.int .i64 x.cell) ∧ FitD L (.int .i64 x.version) ∧ FitD L (.list (.base .read) x.reads) := by
  simp only [Fit, Ty.cells, Base.cells, List.mem_cons, List.not_mem_nil, or_false, forall_eq_or_imp, forall_eq, and_assoc]
theorem fit_replica {L : Nat} {x : GReplica} : Fit L (.base .replica) x ↔ FitD L (.int .i64 x.id) ∧ FitD L (.list (.base .op) x.ops) := by
  simp only [Fit, Ty.cells, Base.cells, List.mem_cons, List.not_mem_nil, or_false, forall_eq_or_imp, forall_eq]
theorem fit_cur {L : Nat} {x : GCur} : Fit L (.base .cur) x ↔ FitD L (.list (.base .u8) x.b) ∧ FitD L (.int .i64 x.i) ∧ FitD L (.int .i64 x.h) := by
  simp only [Fit, Ty.cells, Base.cells, List.mem_cons, List.not_mem_nil, or_false, forall_eq_or_imp, forall_eq]
def cntIntS (xs : List Int) : Nat := (xs.map fun _ => 1).sum
def cntStringS (xs : List Str) : Nat := (xs.map fun _ => 1).sum
noncomputable def cntOriginE (x : GOrigin) : Nat := 1 + 1
noncomputable def cntOriginS (xs : List GOrigin) : Nat := (xs.map cntOriginE).sum
theorem cntOriginE_eq (x : GOrigin) : cntOriginE x = 1 + 1 := by
  unfold cntOriginE; simp only [Nat.add_assoc]; try omega
theorem cntOriginS_eq (xs : List GOrigin) : cntOriginS xs = (xs.map cntOriginE).sum := rfl
noncomputable def cntRowE (x : GRow) : Nat := cntIntS x.cells + cntOriginS x.orig
noncomputable def cntRowS (xs : List GRow) : Nat := (xs.map cntRowE).sum
theorem cntRowE_eq (x : GRow) : cntRowE x = cntIntS x.cells + cntOriginS x.orig := by
  unfold cntRowE; simp only [Nat.add_assoc]; try omega
theorem cntRowS_eq (xs : List GRow) : cntRowS xs = (xs.map cntRowE).sum := rfl
noncomputable def cntValueE (x : GVal) : Nat := GVal.rec (motive_1 := fun _ => Nat) (motive_2 := fun _ => Nat) (fun a0 a1 a2 a3 a4 a5 a6 ih => 1 + 1 + 1 + 1 + ih + cntStringS a5 + cntRowS a6) 0 (fun _ _ a b => a + b) x
noncomputable def cntValueS (xs : List GVal) : Nat := GVal.rec_1 (motive_1 := fun _ => Nat) (motive_2 := fun _ => Nat) (fun a0 a1 a2 a3 a4 a5 a6 ih => 1 + 1 + 1 + 1 + ih + cntStringS a5 + cntRowS a6) 0 (fun _ _ a b => a + b) xs
theorem cntValueE_eq (x : GVal) : cntValueE x = 1 + 1 + 1 + 1 + cntValueS x.list + cntStringS x.columns + cntRowS x.rows := by cases x; rfl
theorem cntValueS_eq : ∀ xs : List GVal, cntValueS xs = (xs.map cntValueE).sum
  | [] => rfl
  | x :: xs => by rw [List.map_cons, List.sum_cons, ← cntValueS_eq xs]; rfl
noncomputable def cntExprE (x : GExpr) : Nat := GExpr.rec (motive_1 := fun _ => Nat) (motive_2 := fun _ => Nat) (fun a0 a1 a2 a3 ih => 1 + 1 + 1 + ih) 0 (fun _ _ a b => a + b) x
noncomputable def cntExprS (xs : List GExpr) : Nat := GExpr.rec_1 (motive_1 := fun _ => Nat) (motive_2 := fun _ => Nat) (fun a0 a1 a2 a3 ih => 1 + 1 + 1 + ih) 0 (fun _ _ a b => a + b) xs
theorem cntExprE_eq (x : GExpr) : cntExprE x = 1 + 1 + 1 + cntExprS x.args := by cases x; rfl
theorem cntExprS_eq : ∀ xs : List GExpr, cntExprS xs = (xs.map cntExprE).sum
  | [] => rfl
  | x :: xs => by rw [List.map_cons, List.sum_cons, ← cntExprS_eq xs]; rfl
noncomputable def cntReadE (x : GRead) : Nat := 1 + 1 + 1 + 1 + 1 + 1 + 1 + 1 + cntValueS x.result.list + cntStringS x.result.columns + cntRowS x.result.rows
noncomputable def cntReadS (xs : List GRead) : Nat := (xs.map cntReadE).sum
theorem cntReadE_eq (x : GRead) : cntReadE x = 1 + 1 + 1 + 1 + cntValueE x.result := by
  unfold cntReadE; simp only [cntValueE_eq, Nat.add_assoc]; try omega
theorem cntReadS_eq (xs : List GRead) : cntReadS xs = (xs.map cntReadE).sum := rfl
noncomputable def cntCellE (x : GCell) : Nat := 1 + 1 + 1 + 1 + 1 + 1
noncomputable def cntCellS (xs : List GCell) : Nat := (xs.map cntCellE).sum
theorem cntCellE_eq (x : GCell) : cntCellE x = 1 + 1 + 1 + 1 + 1 + 1 := by
  unfold cntCellE; simp only [Nat.add_assoc]; try omega
theorem cntCellS_eq (xs : List GCell) : cntCellS xs = (xs.map cntCellE).sum := rfl
noncomputable def cntEditE (x : GEdit) : Nat := 1 + 1 + 1 + 1 + 1 + 1 + 1 + 1
noncomputable def cntEditS (xs : List GEdit) : Nat := (xs.map cntEditE).sum
theorem cntEditE_eq (x : GEdit) : cntEditE x = 1 + 1 + cntCellE x.cell := by
  unfold cntEditE; simp only [cntCellE_eq, Nat.add_assoc]; try omega
theorem cntEditS_eq (xs : List GEdit) : cntEditS xs = (xs.map cntEditE).sum := rfl
noncomputable def cntOpE (x : GOp) : Nat := 1 + 1 + 1 + cntIntS x.seen + 1 + 1 + 1 + 1 + 1 + 1 + 1 + 1 + 1 + 1 + 1 + 1 + cntReadS x.reads
noncomputable def cntOpS (xs : List GOp) : Nat := (xs.map cntOpE).sum
theorem cntOpE_eq (x : GOp) : cntOpE x = 1 + 1 + 1 + cntIntS x.seen + cntEditE x.edit + 1 + 1 + 1 + 1 + cntReadS x.reads := by
  unfold cntOpE; simp only [cntEditE_eq, cntCellE_eq, Nat.add_assoc]; try omega
theorem cntOpS_eq (xs : List GOp) : cntOpS xs = (xs.map cntOpE).sum := rfl
noncomputable def cntReplicaE (x : GReplica) : Nat := 1 + cntOpS x.ops
noncomputable def cntReplicaS (xs : List GReplica) : Nat := (xs.map cntReplicaE).sum
theorem cntReplicaE_eq (x : GReplica) : cntReplicaE x = 1 + cntOpS x.ops := by
  unfold cntReplicaE; simp only [Nat.add_assoc]; try omega
theorem cntReplicaS_eq (xs : List GReplica) : cntReplicaS xs = (xs.map cntReplicaE).sum := rfl
end Go.Proofs.YtjpmhfhcbehgcaaGreat
