/- Sizes, copies and equality of this translation, by genbasic.py. -/
import Derived.Test.YtceinjokenbhjaaGreatDoorBasic0
set_option linter.unusedSimpArgs false
set_option linter.unusedVariables false
namespace Go.Proofs.YtceinjokenbhjaaGreatDoor
open Go.Abs Go.Proofs
theorem siz_list {v : GVal} : siz v.list < siz v := by
  cases v; simp only [siz]; rw [GVal.mk.sizeOf_spec]; omega
theorem siz_mem {α : Type} [SizeOf α] {x : α} {xs : List α} (h : x ∈ xs) : siz x < siz xs := List.sizeOf_lt_of_mem h
theorem fit_origin {L : Nat} {x : GOrigin} : Fit L (.base .origin) x ↔ FitD L (.int .i64 x.cell) ∧ FitD L (.int .i64 x.row) := by
  simp only [Fit, Ty.cells, Base.cells, List.mem_cons, List.not_mem_nil, or_false, forall_eq_or_imp, forall_eq]
theorem fit_row {L : Nat} {x : GRow} : Fit L (.base .row) x ↔ FitD L (.list (.base .int) x.cells) ∧ FitD L (.list (.base .origin) x.orig) := by
  simp only [Fit, Ty.cells, Base.cells, List.mem_cons, List.not_mem_nil, or_false, forall_eq_or_imp, forall_eq]
theorem fit_val {L : Nat} {x : GVal} : Fit L (.base .val) x ↔ FitD L (.int .i64 x.kind) ∧ FitD L (.int .i64 x.n) ∧ FitD L (.int .i64 x.step) ∧ FitD L (.str x.text) ∧ FitD L (.list (.base .val) x.list) ∧ FitD L (.list (.base .str) x.columns) ∧ FitD L (.list (.base .row) x.rows) := by
  simp only [Fit, Ty.cells, Base.cells, List.mem_cons, List.not_mem_nil, or_false, forall_eq_or_imp, forall_eq]
theorem fit_read {L : Nat} {x : GRead} : Fit L (.base .read) x ↔ FitD L (.int .i64 x.kind) ∧ FitD L (.int .i64 x.n) ∧ FitD L (.int .i64 x.time) ∧ FitD L (.str x.text) ∧ Fit L (.base .val) x.result := by
  simp only [Fit, Ty.cells, Base.cells, List.mem_cons, List.not_mem_nil, or_false, forall_eq_or_imp, forall_eq, and_assoc]
theorem fit_cell {L : Nat} {x : GCell} : Fit L (.base .cell) x ↔ FitD L (.int .i64 x.id) ∧ FitD L (.int .i64 x.version) ∧ FitD L (.int .i64 x.kind) ∧ FitD L (.str x.name) ∧ FitD L (.str x.code) ∧ FitD L (.int .i64 x.n) := by
  simp only [Fit, Ty.cells, Base.cells, List.mem_cons, List.not_mem_nil, or_false, forall_eq_or_imp, forall_eq]
theorem fit_edit {L : Nat} {x : GEdit} : Fit L (.base .edit) x ↔ FitD L (.int .i64 x.kind) ∧ FitD L (.int .i64 x.pos) ∧ Fit L (.base .cell) x.cell := by
  simp only [Fit, Ty.cells, Base.cells, List.mem_cons, List.not_mem_nil, or_false, forall_eq_or_imp, forall_eq, and_assoc]
theorem fit_op {L : Nat} {x : GOp} : Fit L (.base .op) x ↔ FitD L (.int .i64 x.time) ∧ FitD L (.int .i64 x.by_) ∧ FitD L (.int .i64 x.kind) ∧ FitD L (.list (.base .int) x.seen) ∧ Fit L (.base .edit) x.edit ∧ FitD L (.str x.src) ∧ FitD L (.str x.dst) ∧ FitD L (.int .i64 x.cell) ∧ FitD L (.int .i64 x.version) ∧ FitD L (.list (.base .read) x.reads) := by
  simp only [Fit, Ty.cells, Base.cells, List.mem_cons, List.not_mem_nil, or_false, forall_eq_or_imp, forall_eq, and_assoc]
def cntIntS (xs : List Int) : Nat := (xs.map fun _ => 1).sum
def cntStringS (xs : List Str) : Nat := (xs.map fun _ => 1).sum
noncomputable def cntOriginE (x : GOrigin) : Nat := 1 + 1
noncomputable def cntOriginS (xs : List GOrigin) : Nat := (xs.map cntOriginE).sum
theorem cntOriginE_eq (x : GOrigin) : cntOriginE x = 1 + 1 := by
  unfold cntOriginE; simp only [Nat.add_assoc]; try omega
noncomputable def cntRowE (x : GRow) : Nat := cntIntS x.cells + cntOriginS x.orig
noncomputable def cntRowS (xs : List GRow) : Nat := (xs.map cntRowE).sum
theorem cntRowE_eq (x : GRow) : cntRowE x = cntIntS x.cells + cntOriginS x.orig := by
  unfold cntRowE; simp only [Nat.add_assoc]; try omega
noncomputable def cntValueE (x : GVal) : Nat := GVal.rec (motive_1 := fun _ => Nat) (motive_2 := fun _ => Nat) (fun a0 a1 a2 a3 a4 a5 a6 ih => 1 + 1 + 1 + 1 + ih + cntStringS a5 + cntRowS a6) 0 (fun _ _ a b => a + b) x
noncomputable def cntValueS (xs : List GVal) : Nat := GVal.rec_1 (motive_1 := fun _ => Nat) (motive_2 := fun _ => Nat) (fun a0 a1 a2 a3 a4 a5 a6 ih => 1 + 1 + 1 + 1 + ih + cntStringS a5 + cntRowS a6) 0 (fun _ _ a b => a + b) xs
theorem cntValueE_eq (x : GVal) : cntValueE x = 1 + 1 + 1 + 1 + cntValueS x.list + cntStringS x.columns + cntRowS x.rows := by cases x; rfl
theorem cntValueS_eq : ∀ xs : List GVal, cntValueS xs = (xs.map cntValueE).sum
  | [] => rfl
  | x :: xs => by rw [List.map_cons, List.sum_cons, ← cntValueS_eq xs]; rfl
noncomputable def cntReadE (x : GRead) : Nat := 1 + 1 + 1 + 1 + 1 + 1 + 1 + 1 + cntValueS x.result.list + cntStringS x.result.columns + cntRowS x.result.rows
noncomputable def cntReadS (xs : List GRead) : Nat := (xs.map cntReadE).sum
theorem cntReadE_eq (x : GRead) : cntReadE x = 1 + 1 + 1 + 1 + cntValueE x.result := by
  unfold cntReadE; simp only [cntValueE_eq, Nat.add_assoc]; try omega
noncomputable def cntCellE (x : GCell) : Nat := 1 + 1 + 1 + 1 + 1 + 1
theorem cntCellE_eq (x : GCell) : cntCellE x = 1 + 1 + 1 + 1 + 1 + 1 := by
  unfold cntCellE; simp only [Nat.add_assoc]; try omega
noncomputable def cntEditE (x : GEdit) : Nat := 1 + 1 + 1 + 1 + 1 + 1 + 1 + 1
theorem cntEditE_eq (x : GEdit) : cntEditE x = 1 + 1 + cntCellE x.cell := by
  unfold cntEditE; simp only [cntCellE_eq, Nat.add_assoc]; try omega
noncomputable def cntOpE (x : GOp) : Nat := 1 + 1 + 1 + cntIntS x.seen + 1 + 1 + 1 + 1 + 1 + 1 + 1 + 1 + 1 + 1 + 1 + 1 + cntReadS x.reads
noncomputable def cntOpS (xs : List GOp) : Nat := (xs.map cntOpE).sum
theorem cntOpE_eq (x : GOp) : cntOpE x = 1 + 1 + 1 + cntIntS x.seen + cntEditE x.edit + 1 + 1 + 1 + 1 + cntReadS x.reads := by
  unfold cntOpE; simp only [cntEditE_eq, cntCellE_eq, Nat.add_assoc]; try omega
theorem szIntS_ok (xs : List Int) (h : FitD B47 (.list (.base .int) xs)) : SzK szIntS (FitD B20 (.list (.base .int) xs)) xs (cntIntS xs) 0 :=
  szFlat_ok (t := .base .int) (fun x hx d hd => by simp only [Ty.cells, Base.cells, List.mem_singleton] at hd; subst hd; exact FitD.int_any (hx _ (by simp [Ty.cells, Base.cells]))) (fun _ _ => rfl) (fun _ => 1) (fun _ => by omega) xs h
theorem szStringS_ok (xs : List Str) (h : FitD B47 (.list (.base .str) xs)) : SzK szStringS (FitD B20 (.list (.base .str) xs)) xs (cntStringS xs) 0 := szStrs_ok (fun _ _ => rfl) xs h
theorem toIntS_ok (xs : List Int) (h : FitD B20 (.list (.base .int) xs)) : toIntS xs = some xs := toList_ok (t := .base .int) (f := fun e => some e) (z := (0 : Int)) (fun _ => rfl) xs (fun _ _ _ => rfl) h
theorem toStringS_ok (xs : List Str) (h : FitD B20 (.list (.base .str) xs)) : toStringS xs = some xs := toList_ok (t := .base .str) (f := fun e => some e) (z := ([] : Str)) (fun _ => rfl) xs (fun _ _ _ => rfl) h
theorem eqIntS_24 (xs : List Int) (h : FitD B24 (.list (.base .int) xs)) : eqIntS xs xs = some true := eqList_ok (t := .base .int) (f := fun e e' => some (e == e')) (fun _ _ => rfl) xs (fun _ _ _ => by simp) h
theorem eqStringS_24 (xs : List Str) (h : FitD B24 (.list (.base .str) xs)) : eqStringS xs xs = some true := eqList_ok (t := .base .str) (f := fun e e' => some (e == e')) (fun _ _ => rfl) xs (fun _ _ _ => by simp) h
theorem szOriginS_ok (xs : List GOrigin) (h : FitD B47 (.list (.base .origin) xs)) : SzK szOriginS (FitD B20 (.list (.base .origin) xs)) xs (cntOriginS xs) 0 :=
  szFlat_ok (t := .base .origin) (fun x hx => by rw [fit_origin] at hx ⊢; obtain ⟨c0, c1⟩ := hx; exact ⟨c0.int_any, c1.int_any⟩) (fun _ _ => rfl) cntOriginE (fun x => by rw [cntOriginE_eq]; simp []) xs h
theorem toOrigin_ok (x : GOrigin) (h : Fit B20 (.base .origin) x) : toOrigin x = some x := by
  rfl
theorem toOriginS_ok (xs : List GOrigin) (h : FitD B20 (.list (.base .origin) xs)) : toOriginS xs = some xs :=
  toList_ok (t := .base .origin) (fun _ => rfl) xs (fun y _ hf => toOrigin_ok y hf) h
theorem eqOrigin_24 (x : GOrigin) (h : Fit B24 (.base .origin) x) : eqOrigin x x = some true := by
  unfold eqOrigin
  simp
theorem eqOriginS_24 (xs : List GOrigin) (h : FitD B24 (.list (.base .origin) xs)) : eqOriginS xs xs = some true :=
  eqList_ok (t := .base .origin) (fun _ _ => rfl) xs (fun y _ hf => eqOrigin_24 y hf) h
theorem szRow_ok (x : GRow) (h : Fit B47 (.base .row) x) : SzK szRow (Fit B20 (.base .row) x) x (cntRowE x) 0 := by
  intro l h0 h1
  rw [fit_row] at h ⊢
  obtain ⟨c0, c1⟩ := h
  unfold szRow
  obtain ⟨r1, e1, p1⟩ := szIntS_ok x.cells c0 l (by omega) (by omega)
  rw [e1, Option.bind_some]
  rcases p1 with p1 | ⟨a1, b1, d1, p1⟩
  · exact ⟨-1, by simp only [p1, decide_true, cond_true], .inl (by omega)⟩
  rw [decide_eq_false (show ¬ r1 < 0 by omega), cond_false]
  obtain ⟨r2, e2, p2⟩ := szOriginS_ok x.orig c1 r1 (by omega) (by omega)
  rw [e2, Option.bind_some]
  rcases p2 with p2 | ⟨a2, b2, d2, p2⟩
  · exact ⟨-1, by simp only [p2, decide_true, cond_true], .inl (by omega)⟩
  rw [decide_eq_false (show ¬ r2 < 0 by omega), cond_false]
  exact ⟨r2, rfl, .inr ⟨by omega, by omega, by rw [cntRowE_eq]; omega, p1, p2⟩⟩
theorem szRowS_ok (xs : List GRow) (h : FitD B47 (.list (.base .row) xs)) : SzK szRowS (FitD B20 (.list (.base .row) xs)) xs (cntRowS xs) 0 :=
  szList_ok (t := .base .row) (f := fun e b => szRow e b) (fun _ _ => rfl) cntRowE 0 (by omega) xs (fun y _ hf => szRow_ok y hf) h
theorem toRow_ok (x : GRow) (h : Fit B20 (.base .row) x) : toRow x = some x := by
  rw [fit_row] at h
  obtain ⟨c0, c1⟩ := h
  unfold toRow
  rw [toIntS_ok x.cells c0, Option.bind_some, toOriginS_ok x.orig c1]
  rfl
theorem toRowS_ok (xs : List GRow) (h : FitD B20 (.list (.base .row) xs)) : toRowS xs = some xs :=
  toList_ok (t := .base .row) (fun _ => rfl) xs (fun y _ hf => toRow_ok y hf) h
theorem eqRow_24 (x : GRow) (h : Fit B24 (.base .row) x) : eqRow x x = some true := by
  rw [fit_row] at h
  obtain ⟨c0, c1⟩ := h
  unfold eqRow
  rw [eqIntS_24 x.cells c0, eqOriginS_24 x.orig c1]
  simp
theorem eqRowS_24 (xs : List GRow) (h : FitD B24 (.list (.base .row) xs)) : eqRowS xs xs = some true :=
  eqList_ok (t := .base .row) (fun _ _ => rfl) xs (fun y _ hf => eqRow_24 y hf) h
theorem szValueG_ok : ∀ n, (∀ v : GVal, siz v < n → Fit B47 (.base .val) v → SzK (szValueG n).1 (Fit B20 (.base .val) v) v (cntValueE v) 4) ∧ (∀ xs : List GVal, siz xs < n → FitD B47 (.list (.base .val) xs) → SzK (szValueG n).2 (FitD B20 (.list (.base .val) xs)) xs (cntValueS xs) 0)
  | 0 => ⟨fun v h => absurd h (Nat.not_lt_zero _), fun v h => absurd h (Nat.not_lt_zero _)⟩
  | n + 1 => by
    have ih := szValueG_ok n
    refine ⟨fun x hx h => ?_, fun xs hx h => cntValueS_eq xs ▸ szList_ok (t := .base .val) (f := fun e b => (szValueG n).1 (reVal e) b) (fun _ _ => rfl) cntValueE 4 (by omega) xs (fun y hy hf => by simp only [SzK, reVal_eq]; exact ih.1 y (by have := siz_mem hy; omega) hf) h⟩
    intro l h0 h1
    rw [fit_val] at h ⊢
    obtain ⟨c0, c1, c2, c3, c4, c5, c6⟩ := h
    show ∃ r, szValueB (szValueG n).1 (szValueG n).2 x l = some r ∧ _
    unfold szValueB
    have s1 := str47 c3
    rw [w64_id (n := l - (x.text.length : Int)) (by omega) (by omega)]
    by_cases q1 : l - (x.text.length : Int) < 0
    · exact ⟨-1, by simp only [q1, decide_true, cond_true], .inl (by omega)⟩
    rw [decide_eq_false q1, cond_false]
    obtain ⟨r1, er1⟩ : ∃ r, r = l - (x.text.length : Int) := ⟨_, rfl⟩
    rw [← er1]
    obtain ⟨r2, e2, p2⟩ := ih.2 x.list (by have := siz_list (v := x); omega) c4 r1 (by omega) (by omega)
    rw [e2, Option.bind_some]
    rcases p2 with p2 | ⟨a2, b2, d2, p2⟩
    · exact ⟨-1, by simp only [p2, decide_true, cond_true], .inl (by omega)⟩
    rw [decide_eq_false (show ¬ r2 < 0 by omega), cond_false]
    obtain ⟨r3, e3, p3⟩ := szStringS_ok x.columns c5 r2 (by omega) (by omega)
    rw [e3, Option.bind_some]
    rcases p3 with p3 | ⟨a3, b3, d3, p3⟩
    · exact ⟨-1, by simp only [p3, decide_true, cond_true], .inl (by omega)⟩
    rw [decide_eq_false (show ¬ r3 < 0 by omega), cond_false]
    obtain ⟨r4, e4, p4⟩ := szRowS_ok x.rows c6 r3 (by omega) (by omega)
    rw [e4, Option.bind_some]
    rcases p4 with p4 | ⟨a4, b4, d4, p4⟩
    · exact ⟨-1, by simp only [p4, decide_true, cond_true], .inl (by omega)⟩
    rw [decide_eq_false (show ¬ r4 < 0 by omega), cond_false]
    exact ⟨r4, rfl, .inr ⟨by omega, by omega, by rw [cntValueE_eq]; omega, c0.int_any, c1.int_any, c2.int_any, mkStr20 (by omega), p2, p3, p4⟩⟩
theorem szValue_ok (x : GVal) (h : Fit B47 (.base .val) x) : SzK szValue (Fit B20 (.base .val) x) x (cntValueE x) 4 := (szValueG_ok (siz x + 1)).1 x (Nat.lt_succ_self _) h
theorem toValueG_ok : ∀ n, (∀ v : GVal, siz v < n → Fit B20 (.base .val) v → (toValueG n).1 v = some v) ∧ (∀ xs : List GVal, siz xs < n → FitD B20 (.list (.base .val) xs) → (toValueG n).2 xs = some xs)
  | 0 => ⟨fun v h => absurd h (Nat.not_lt_zero _), fun v h => absurd h (Nat.not_lt_zero _)⟩
  | n + 1 => by
    have ih := toValueG_ok n
    refine ⟨fun x hx h => ?_, fun xs hx h => toList_ok (t := .base .val) (f := fun e => ((toValueG n).1 (reVal e)).bind fun r => some (reVal r)) (z := GVal.mk 0 0 0 [] [] [] []) (fun a => ?_) xs (fun y hy hf => ?_) h⟩
    · rw [fit_val] at h
      obtain ⟨c0, c1, c2, c3, c4, c5, c6⟩ := h
      show toValueB (toValueG n).1 (toValueG n).2 x = some x
      unfold toValueB
      rw [ih.2 x.list (by have := siz_list (v := x); omega) c4, toStringS_ok _ c5, toRowS_ok _ c6]
      cases x; rfl
    · show toValueSB (toValueG n).1 (toValueG n).2 a = _
      unfold toValueSB
      simp only [Option.bind_assoc, Option.bind_some]
    · simp only [reVal_eq]
      rw [ih.1 y (by have := siz_mem hy; omega) hf]
      rfl
theorem toValue_ok (x : GVal) (h : Fit B20 (.base .val) x) : toValue x = some x := (toValueG_ok (siz x + 1)).1 x (Nat.lt_succ_self _) h
theorem eqValueG_24 : ∀ n, (∀ v : GVal, siz v < n → Fit B24 (.base .val) v → (eqValueG n).1 v v = some true) ∧ (∀ xs : List GVal, siz xs < n → FitD B24 (.list (.base .val) xs) → (eqValueG n).2 xs xs = some true)
  | 0 => ⟨fun v h => absurd h (Nat.not_lt_zero _), fun v h => absurd h (Nat.not_lt_zero _)⟩
  | n + 1 => by
    have ih := eqValueG_24 n
    refine ⟨fun x hx h => ?_, fun xs hx h => eqList_ok (t := .base .val) (f := fun e e' => (eqValueG n).1 (reVal e) (reVal e')) (fun _ _ => rfl) xs (fun y hy hf => by simp only [reVal_eq]; exact ih.1 y (by have := siz_mem hy; omega) hf) h⟩
    rw [fit_val] at h
    obtain ⟨c0, c1, c2, c3, c4, c5, c6⟩ := h
    show eqValueB (eqValueG n).1 (eqValueG n).2 x x = some true
    unfold eqValueB
    rw [ih.2 x.list (by have := siz_list (v := x); omega) c4, eqStringS_24 _ c5, eqRowS_24 _ c6]
    simp
theorem eqValue_24 (x : GVal) (h : Fit B24 (.base .val) x) : eqValue x x = some true := (eqValueG_24 (siz x + siz x + 1)).1 x (by omega) h
theorem szRead_ok (x : GRead) (h : Fit B47 (.base .read) x) : SzK szRead (Fit B20 (.base .read) x) x (cntReadE x) 8 := by
  intro l h0 h1
  rw [fit_read] at h ⊢
  obtain ⟨c0, c1, c2, c3, c4⟩ := h
  unfold szRead
  simp only [reVal_eq]
  have s1 := str47 c3
  rw [w64_id (n := l - (x.text.length : Int)) (by omega) (by omega)]
  by_cases q1 : l - (x.text.length : Int) < 0
  · exact ⟨-1, by simp only [q1, decide_true, cond_true], .inl (by omega)⟩
  rw [decide_eq_false q1, cond_false]
  obtain ⟨r1, er1⟩ : ∃ r, r = l - (x.text.length : Int) := ⟨_, rfl⟩
  rw [← er1]
  obtain ⟨r2, e2, p2⟩ := szValue_ok x.result c4 r1 (by omega) (by omega)
  rw [e2, Option.bind_some]
  rcases p2 with p2 | ⟨a2, b2, d2, p2⟩
  · exact ⟨-1, by simp only [p2, decide_true, cond_true], .inl (by omega)⟩
  rw [decide_eq_false (show ¬ r2 < 0 by omega), cond_false]
  exact ⟨r2, rfl, .inr ⟨by omega, by omega, by rw [cntReadE_eq]; omega, c0.int_any, c1.int_any, c2.int_any, mkStr20 (by omega), p2⟩⟩
theorem szReadS_ok (xs : List GRead) (h : FitD B47 (.list (.base .read) xs)) : SzK szReadS (FitD B20 (.list (.base .read) xs)) xs (cntReadS xs) 0 :=
  szList_ok (t := .base .read) (f := fun e b => szRead (reRead e) b) (fun _ _ => rfl) cntReadE 8 (by omega) xs (fun y _ hf => by simp only [SzK, reRead_eq]; exact szRead_ok y hf) h
theorem toRead_ok (x : GRead) (h : Fit B20 (.base .read) x) : toRead x = some x := by
  rw [fit_read] at h
  obtain ⟨c0, c1, c2, c3, c4⟩ := h
  unfold toRead
  simp only [reVal_eq]
  rw [toValue_ok x.result c4]
  simp only [Option.bind_some, reVal_eq]
theorem toReadS_ok (xs : List GRead) (h : FitD B20 (.list (.base .read) xs)) : toReadS xs = some xs :=
  toList_ok (t := .base .read) (f := fun e => (toRead (reRead e)).bind fun r => some (reRead r)) (z := (Base.zero .read)) (fun a => by unfold toReadS; simp only [Option.bind_assoc, Option.bind_some]; rfl) xs (fun y _ hf => by simp only [reRead_eq]; rw [toRead_ok y hf]; rfl) h
theorem eqRead_24 (x : GRead) (h : Fit B24 (.base .read) x) : eqRead x x = some true := by
  rw [fit_read] at h
  obtain ⟨c0, c1, c2, c3, c4⟩ := h
  unfold eqRead
  simp only [reVal_eq]
  rw [eqValue_24 x.result c4]
  simp
theorem eqReadS_24 (xs : List GRead) (h : FitD B24 (.list (.base .read) xs)) : eqReadS xs xs = some true :=
  eqList_ok (t := .base .read) (f := fun e e' => eqRead (reRead e) (reRead e')) (fun _ _ => rfl) xs (fun y _ hf => by simp only [reRead_eq]; exact eqRead_24 y hf) h
theorem szCell_ok (x : GCell) (h : Fit B47 (.base .cell) x) : SzK szCell (Fit B20 (.base .cell) x) x (cntCellE x) 6 := by
  intro l h0 h1
  rw [fit_cell] at h ⊢
  obtain ⟨c0, c1, c2, c3, c4, c5⟩ := h
  unfold szCell
  have s1 := str47 c3
  rw [w64_id (n := l - (x.name.length : Int)) (by omega) (by omega)]
  by_cases q1 : l - (x.name.length : Int) < 0
  · exact ⟨-1, by simp only [q1, decide_true, cond_true], .inl (by omega)⟩
  rw [decide_eq_false q1, cond_false]
  obtain ⟨r1, er1⟩ : ∃ r, r = l - (x.name.length : Int) := ⟨_, rfl⟩
  rw [← er1]
  have s2 := str47 c4
  rw [w64_id (n := r1 - (x.code.length : Int)) (by omega) (by omega)]
  by_cases q2 : r1 - (x.code.length : Int) < 0
  · exact ⟨-1, by simp only [q2, decide_true, cond_true], .inl (by omega)⟩
  rw [decide_eq_false q2, cond_false]
  obtain ⟨r2, er2⟩ : ∃ r, r = r1 - (x.code.length : Int) := ⟨_, rfl⟩
  rw [← er2]
  exact ⟨r2, rfl, .inr ⟨by omega, by omega, by rw [cntCellE_eq]; omega, c0.int_any, c1.int_any, c2.int_any, mkStr20 (by omega), mkStr20 (by omega), c5.int_any⟩⟩
theorem toCell_ok (x : GCell) (h : Fit B20 (.base .cell) x) : toCell x = some x := by
  rfl
theorem eqCell_24 (x : GCell) (h : Fit B24 (.base .cell) x) : eqCell x x = some true := by
  unfold eqCell
  simp
theorem szEdit_ok (x : GEdit) (h : Fit B47 (.base .edit) x) : SzK szEdit (Fit B20 (.base .edit) x) x (cntEditE x) 8 := by
  intro l h0 h1
  rw [fit_edit] at h ⊢
  obtain ⟨c0, c1, c2⟩ := h
  unfold szEdit
  obtain ⟨r1, e1, p1⟩ := szCell_ok x.cell c2 l (by omega) (by omega)
  rw [e1, Option.bind_some]
  rcases p1 with p1 | ⟨a1, b1, d1, p1⟩
  · exact ⟨-1, by simp only [p1, decide_true, cond_true], .inl (by omega)⟩
  rw [decide_eq_false (show ¬ r1 < 0 by omega), cond_false]
  exact ⟨r1, rfl, .inr ⟨by omega, by omega, by rw [cntEditE_eq]; omega, c0.int_any, c1.int_any, p1⟩⟩
theorem toEdit_ok (x : GEdit) (h : Fit B20 (.base .edit) x) : toEdit x = some x := by
  rw [fit_edit] at h
  obtain ⟨c0, c1, c2⟩ := h
  unfold toEdit
  rw [toCell_ok x.cell c2]
  rfl
theorem eqEdit_24 (x : GEdit) (h : Fit B24 (.base .edit) x) : eqEdit x x = some true := by
  rw [fit_edit] at h
  obtain ⟨c0, c1, c2⟩ := h
  unfold eqEdit
  rw [eqCell_24 x.cell c2]
  simp
theorem szOp_ok (x : GOp) (h : Fit B47 (.base .op) x) : SzK szOp (Fit B20 (.base .op) x) x (cntOpE x) 15 := by
  intro l h0 h1
  rw [fit_op] at h ⊢
  obtain ⟨c0, c1, c2, c3, c4, c5, c6, c7, c8, c9⟩ := h
  unfold szOp
  obtain ⟨r1, e1, p1⟩ := szIntS_ok x.seen c3 l (by omega) (by omega)
  rw [e1, Option.bind_some]
  rcases p1 with p1 | ⟨a1, b1, d1, p1⟩
  · exact ⟨-1, by simp only [p1, decide_true, cond_true], .inl (by omega)⟩
  rw [decide_eq_false (show ¬ r1 < 0 by omega), cond_false]
  obtain ⟨r2, e2, p2⟩ := szEdit_ok x.edit c4 r1 (by omega) (by omega)
  rw [e2, Option.bind_some]
  rcases p2 with p2 | ⟨a2, b2, d2, p2⟩
  · exact ⟨-1, by simp only [p2, decide_true, cond_true], .inl (by omega)⟩
  rw [decide_eq_false (show ¬ r2 < 0 by omega), cond_false]
  have s3 := str47 c5
  rw [w64_id (n := r2 - (x.src.length : Int)) (by omega) (by omega)]
  by_cases q3 : r2 - (x.src.length : Int) < 0
  · exact ⟨-1, by simp only [q3, decide_true, cond_true], .inl (by omega)⟩
  rw [decide_eq_false q3, cond_false]
  obtain ⟨r3, er3⟩ : ∃ r, r = r2 - (x.src.length : Int) := ⟨_, rfl⟩
  rw [← er3]
  have s4 := str47 c6
  rw [w64_id (n := r3 - (x.dst.length : Int)) (by omega) (by omega)]
  by_cases q4 : r3 - (x.dst.length : Int) < 0
  · exact ⟨-1, by simp only [q4, decide_true, cond_true], .inl (by omega)⟩
  rw [decide_eq_false q4, cond_false]
  obtain ⟨r4, er4⟩ : ∃ r, r = r3 - (x.dst.length : Int) := ⟨_, rfl⟩
  rw [← er4]
  obtain ⟨r5, e5, p5⟩ := szReadS_ok x.reads c9 r4 (by omega) (by omega)
  rw [e5, Option.bind_some]
  rcases p5 with p5 | ⟨a5, b5, d5, p5⟩
  · exact ⟨-1, by simp only [p5, decide_true, cond_true], .inl (by omega)⟩
  rw [decide_eq_false (show ¬ r5 < 0 by omega), cond_false]
  exact ⟨r5, rfl, .inr ⟨by omega, by omega, by rw [cntOpE_eq]; omega, c0.int_any, c1.int_any, c2.int_any, p1, p2, mkStr20 (by omega), mkStr20 (by omega), c7.int_any, c8.int_any, p5⟩⟩
theorem szOpS_ok (xs : List GOp) (h : FitD B47 (.list (.base .op) xs)) : SzK szOpS (FitD B20 (.list (.base .op) xs)) xs (cntOpS xs) 0 :=
  szList_ok (t := .base .op) (f := fun e b => szOp e b) (fun _ _ => rfl) cntOpE 15 (by omega) xs (fun y _ hf => szOp_ok y hf) h
theorem toOp_ok (x : GOp) (h : Fit B20 (.base .op) x) : toOp x = some x := by
  rw [fit_op] at h
  obtain ⟨c0, c1, c2, c3, c4, c5, c6, c7, c8, c9⟩ := h
  unfold toOp
  rw [toIntS_ok x.seen c3, Option.bind_some, toEdit_ok x.edit c4, Option.bind_some, toReadS_ok x.reads c9]
  rfl
theorem toOpS_ok (xs : List GOp) (h : FitD B20 (.list (.base .op) xs)) : toOpS xs = some xs :=
  toList_ok (t := .base .op) (fun _ => rfl) xs (fun y _ hf => toOp_ok y hf) h
theorem eqOp_24 (x : GOp) (h : Fit B24 (.base .op) x) : eqOp x x = some true := by
  rw [fit_op] at h
  obtain ⟨c0, c1, c2, c3, c4, c5, c6, c7, c8, c9⟩ := h
  unfold eqOp
  rw [eqIntS_24 x.seen c3, eqEdit_24 x.edit c4, eqReadS_24 x.reads c9]
  simp
theorem eqOpS_24 (xs : List GOp) (h : FitD B24 (.list (.base .op) xs)) : eqOpS xs xs = some true :=
  eqList_ok (t := .base .op) (fun _ _ => rfl) xs (fun y _ hf => eqOp_24 y hf) h
theorem eqOpS_ok (xs : List GOp) (h : FitD B20 (.list (.base .op) xs)) : eqOpS xs xs = some true := eqOpS_24 xs (h.mono le24)
end Go.Proofs.YtceinjokenbhjaaGreatDoor
