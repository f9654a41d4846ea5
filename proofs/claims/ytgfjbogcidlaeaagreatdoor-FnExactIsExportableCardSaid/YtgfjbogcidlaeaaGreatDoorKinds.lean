import Derived.Test.YtgfjbogcidlaeaaGreatDoorAbs
/- Cells of the right kinds are data of the type. Written by genkinds.py. -/
set_option linter.unusedSimpArgs false
namespace Go.Abs
theorem kd_int {d : D} {k : IntKind} (h : kd d = .int k) : ∃ n, d = .int k n := by
 cases d <;> simp only [kd] at h <;> cases h
 exact ⟨_, rfl⟩
theorem kd_bool {d : D} (h : kd d = .bool) : ∃ b, d = .bool b := by
 cases d <;> simp only [kd] at h <;> cases h
 exact ⟨_, rfl⟩
theorem kd_str {d : D} (h : kd d = .str) : ∃ s, d = .str s := by
 cases d <;> simp only [kd] at h <;> cases h
 exact ⟨_, rfl⟩
theorem kd_list {d : D} {t : Ty} (h : kd d = .list t) : ∃ xs, d = .list t xs := by
 cases d <;> simp only [kd] at h <;> cases h
 exact ⟨_, rfl⟩
def Base.kinds : Base -> List Kd
 | .int => [.int .i64] | .u8 => [.int .u8] | .bool => [.bool] | .str => [.str]
 | .origin => [.int .i64, .int .i64]
 | .row => [.list (.base .int), .list (.base .origin)]
 | .val => [.int .i64, .int .i64, .int .i64, .str, .list (.base .val), .list (.base .str), .list (.base .row)]
 | .token => [.int .i64, .int .i64, .int .i64, .str]
 | .expr => [.int .i64, .int .i64, .str, .list (.base .expr)]
 | .cell => [.int .i64, .int .i64, .int .i64, .str, .str, .int .i64]
 | .notebook => [.list (.base .cell)]
 | .part => [.int .i64, .str, .int .i64, .int .i64, .str, .list (.base .expr), .int .i64, .int .i64, .int .i64, .str, .list (.base .val), .list (.base .str), .list (.base .row), .int .i64]
 | .rd => [.list (.base .token), .int .i64, .int .i64, .int .i64]
 | .psr => [.list (.base .token), .int .i64, .int .i64]
def Ty.kinds : Ty -> List Kd
 | .base b => b.kinds
 | .list t => [.list t]
theorem kinds_origin {ds : List D} (h : ds.map kd = Base.kinds .origin) : ∃ x, of_origin ds = some x := by
 obtain ⟨d0, r0, rfl, h0, h⟩ := List.map_eq_cons_iff.1 h
 obtain ⟨d1, r1, rfl, h1, h⟩ := List.map_eq_cons_iff.1 h
 obtain rfl := List.map_eq_nil_iff.1 h
 obtain ⟨x0, rfl⟩ := kd_int h0
 obtain ⟨x1, rfl⟩ := kd_int h1
 refine Option.isSome_iff_exists.1 ?_
 simp [of_origin, D.asList]
theorem kinds_row {ds : List D} (h : ds.map kd = Base.kinds .row) : ∃ x, of_row ds = some x := by
 obtain ⟨d0, r0, rfl, h0, h⟩ := List.map_eq_cons_iff.1 h
 obtain ⟨d1, r1, rfl, h1, h⟩ := List.map_eq_cons_iff.1 h
 obtain rfl := List.map_eq_nil_iff.1 h
 obtain ⟨x0, rfl⟩ := kd_list h0
 obtain ⟨x1, rfl⟩ := kd_list h1
 refine Option.isSome_iff_exists.1 ?_
 simp [of_row, D.asList]
theorem kinds_val {ds : List D} (h : ds.map kd = Base.kinds .val) : ∃ x, of_val ds = some x := by
 obtain ⟨d0, r0, rfl, h0, h⟩ := List.map_eq_cons_iff.1 h
 obtain ⟨d1, r1, rfl, h1, h⟩ := List.map_eq_cons_iff.1 h
 obtain ⟨d2, r2, rfl, h2, h⟩ := List.map_eq_cons_iff.1 h
 obtain ⟨d3, r3, rfl, h3, h⟩ := List.map_eq_cons_iff.1 h
 obtain ⟨d4, r4, rfl, h4, h⟩ := List.map_eq_cons_iff.1 h
 obtain ⟨d5, r5, rfl, h5, h⟩ := List.map_eq_cons_iff.1 h
 obtain ⟨d6, r6, rfl, h6, h⟩ := List.map_eq_cons_iff.1 h
 obtain rfl := List.map_eq_nil_iff.1 h
 obtain ⟨x0, rfl⟩ := kd_int h0
 obtain ⟨x1, rfl⟩ := kd_int h1
 obtain ⟨x2, rfl⟩ := kd_int h2
 obtain ⟨x3, rfl⟩ := kd_str h3
 obtain ⟨x4, rfl⟩ := kd_list h4
 obtain ⟨x5, rfl⟩ := kd_list h5
 obtain ⟨x6, rfl⟩ := kd_list h6
 refine Option.isSome_iff_exists.1 ?_
 simp [of_val, D.asList]
theorem kinds_token {ds : List D} (h : ds.map kd = Base.kinds .token) : ∃ x, of_token ds = some x := by
 obtain ⟨d0, r0, rfl, h0, h⟩ := List.map_eq_cons_iff.1 h
 obtain ⟨d1, r1, rfl, h1, h⟩ := List.map_eq_cons_iff.1 h
 obtain ⟨d2, r2, rfl, h2, h⟩ := List.map_eq_cons_iff.1 h
 obtain ⟨d3, r3, rfl, h3, h⟩ := List.map_eq_cons_iff.1 h
 obtain rfl := List.map_eq_nil_iff.1 h
 obtain ⟨x0, rfl⟩ := kd_int h0
 obtain ⟨x1, rfl⟩ := kd_int h1
 obtain ⟨x2, rfl⟩ := kd_int h2
 obtain ⟨x3, rfl⟩ := kd_str h3
 refine Option.isSome_iff_exists.1 ?_
 simp [of_token, D.asList]
theorem kinds_expr {ds : List D} (h : ds.map kd = Base.kinds .expr) : ∃ x, of_expr ds = some x := by
 obtain ⟨d0, r0, rfl, h0, h⟩ := List.map_eq_cons_iff.1 h
 obtain ⟨d1, r1, rfl, h1, h⟩ := List.map_eq_cons_iff.1 h
 obtain ⟨d2, r2, rfl, h2, h⟩ := List.map_eq_cons_iff.1 h
 obtain ⟨d3, r3, rfl, h3, h⟩ := List.map_eq_cons_iff.1 h
 obtain rfl := List.map_eq_nil_iff.1 h
 obtain ⟨x0, rfl⟩ := kd_int h0
 obtain ⟨x1, rfl⟩ := kd_int h1
 obtain ⟨x2, rfl⟩ := kd_str h2
 obtain ⟨x3, rfl⟩ := kd_list h3
 refine Option.isSome_iff_exists.1 ?_
 simp [of_expr, D.asList]
theorem kinds_cell {ds : List D} (h : ds.map kd = Base.kinds .cell) : ∃ x, of_cell ds = some x := by
 obtain ⟨d0, r0, rfl, h0, h⟩ := List.map_eq_cons_iff.1 h
 obtain ⟨d1, r1, rfl, h1, h⟩ := List.map_eq_cons_iff.1 h
 obtain ⟨d2, r2, rfl, h2, h⟩ := List.map_eq_cons_iff.1 h
 obtain ⟨d3, r3, rfl, h3, h⟩ := List.map_eq_cons_iff.1 h
 obtain ⟨d4, r4, rfl, h4, h⟩ := List.map_eq_cons_iff.1 h
 obtain ⟨d5, r5, rfl, h5, h⟩ := List.map_eq_cons_iff.1 h
 obtain rfl := List.map_eq_nil_iff.1 h
 obtain ⟨x0, rfl⟩ := kd_int h0
 obtain ⟨x1, rfl⟩ := kd_int h1
 obtain ⟨x2, rfl⟩ := kd_int h2
 obtain ⟨x3, rfl⟩ := kd_str h3
 obtain ⟨x4, rfl⟩ := kd_str h4
 obtain ⟨x5, rfl⟩ := kd_int h5
 refine Option.isSome_iff_exists.1 ?_
 simp [of_cell, D.asList]
theorem kinds_notebook {ds : List D} (h : ds.map kd = Base.kinds .notebook) : ∃ x, of_notebook ds = some x := by
 obtain ⟨d0, r0, rfl, h0, h⟩ := List.map_eq_cons_iff.1 h
 obtain rfl := List.map_eq_nil_iff.1 h
 obtain ⟨x0, rfl⟩ := kd_list h0
 refine Option.isSome_iff_exists.1 ?_
 simp [of_notebook, D.asList]
theorem kinds_part {ds : List D} (h : ds.map kd = Base.kinds .part) : ∃ x, of_part ds = some x := by
 obtain ⟨d0, r0, rfl, h0, h⟩ := List.map_eq_cons_iff.1 h
 obtain ⟨d1, r1, rfl, h1, h⟩ := List.map_eq_cons_iff.1 h
 obtain ⟨d2, r2, rfl, h2, h⟩ := List.map_eq_cons_iff.1 h
 obtain ⟨d3, r3, rfl, h3, h⟩ := List.map_eq_cons_iff.1 h
 obtain ⟨d4, r4, rfl, h4, h⟩ := List.map_eq_cons_iff.1 h
 obtain ⟨d5, r5, rfl, h5, h⟩ := List.map_eq_cons_iff.1 h
 obtain ⟨d6, r6, rfl, h6, h⟩ := List.map_eq_cons_iff.1 h
 obtain ⟨d7, r7, rfl, h7, h⟩ := List.map_eq_cons_iff.1 h
 obtain ⟨d8, r8, rfl, h8, h⟩ := List.map_eq_cons_iff.1 h
 obtain ⟨d9, r9, rfl, h9, h⟩ := List.map_eq_cons_iff.1 h
 obtain ⟨d10, r10, rfl, h10, h⟩ := List.map_eq_cons_iff.1 h
 obtain ⟨d11, r11, rfl, h11, h⟩ := List.map_eq_cons_iff.1 h
 obtain ⟨d12, r12, rfl, h12, h⟩ := List.map_eq_cons_iff.1 h
 obtain ⟨d13, r13, rfl, h13, h⟩ := List.map_eq_cons_iff.1 h
 obtain rfl := List.map_eq_nil_iff.1 h
 obtain ⟨x0, rfl⟩ := kd_int h0
 obtain ⟨x1, rfl⟩ := kd_str h1
 obtain ⟨x2, rfl⟩ := kd_int h2
 obtain ⟨x3, rfl⟩ := kd_int h3
 obtain ⟨x4, rfl⟩ := kd_str h4
 obtain ⟨x5, rfl⟩ := kd_list h5
 obtain ⟨x6, rfl⟩ := kd_int h6
 obtain ⟨x7, rfl⟩ := kd_int h7
 obtain ⟨x8, rfl⟩ := kd_int h8
 obtain ⟨x9, rfl⟩ := kd_str h9
 obtain ⟨x10, rfl⟩ := kd_list h10
 obtain ⟨x11, rfl⟩ := kd_list h11
 obtain ⟨x12, rfl⟩ := kd_list h12
 obtain ⟨x13, rfl⟩ := kd_int h13
 refine Option.isSome_iff_exists.1 ?_
 simp [of_part, D.asList]
theorem kinds_rd {ds : List D} (h : ds.map kd = Base.kinds .rd) : ∃ x, of_rd ds = some x := by
 obtain ⟨d0, r0, rfl, h0, h⟩ := List.map_eq_cons_iff.1 h
 obtain ⟨d1, r1, rfl, h1, h⟩ := List.map_eq_cons_iff.1 h
 obtain ⟨d2, r2, rfl, h2, h⟩ := List.map_eq_cons_iff.1 h
 obtain ⟨d3, r3, rfl, h3, h⟩ := List.map_eq_cons_iff.1 h
 obtain rfl := List.map_eq_nil_iff.1 h
 obtain ⟨x0, rfl⟩ := kd_list h0
 obtain ⟨x1, rfl⟩ := kd_int h1
 obtain ⟨x2, rfl⟩ := kd_int h2
 obtain ⟨x3, rfl⟩ := kd_int h3
 refine Option.isSome_iff_exists.1 ?_
 simp [of_rd, D.asList]
theorem kinds_psr {ds : List D} (h : ds.map kd = Base.kinds .psr) : ∃ x, of_psr ds = some x := by
 obtain ⟨d0, r0, rfl, h0, h⟩ := List.map_eq_cons_iff.1 h
 obtain ⟨d1, r1, rfl, h1, h⟩ := List.map_eq_cons_iff.1 h
 obtain ⟨d2, r2, rfl, h2, h⟩ := List.map_eq_cons_iff.1 h
 obtain rfl := List.map_eq_nil_iff.1 h
 obtain ⟨x0, rfl⟩ := kd_list h0
 obtain ⟨x1, rfl⟩ := kd_int h1
 obtain ⟨x2, rfl⟩ := kd_int h2
 refine Option.isSome_iff_exists.1 ?_
 simp [of_psr, D.asList]
theorem ofCells_kinds {t : Ty} {ds : List D} (h : ds.map kd = t.kinds) : ∃ x, t.ofCells ds = some x := by
 cases t with
 | list t =>
  obtain ⟨d, r, rfl, h1, h⟩ := List.map_eq_cons_iff.1 h
  obtain rfl := List.map_eq_nil_iff.1 h
  obtain ⟨xs, rfl⟩ := kd_list h1
  exact ⟨xs, by simp [Ty.ofCells, D.asList]⟩
 | base b =>
  cases b
  case int =>
   obtain ⟨d, r, rfl, h1, h⟩ := List.map_eq_cons_iff.1 h
   obtain rfl := List.map_eq_nil_iff.1 h
   obtain ⟨n, rfl⟩ := kd_int h1
   exact ⟨n, rfl⟩
  case u8 =>
   obtain ⟨d, r, rfl, h1, h⟩ := List.map_eq_cons_iff.1 h
   obtain rfl := List.map_eq_nil_iff.1 h
   obtain ⟨n, rfl⟩ := kd_int h1
   exact ⟨n, rfl⟩
  case bool =>
   obtain ⟨d, r, rfl, h1, h⟩ := List.map_eq_cons_iff.1 h
   obtain rfl := List.map_eq_nil_iff.1 h
   obtain ⟨n, rfl⟩ := kd_bool h1
   exact ⟨n, rfl⟩
  case str =>
   obtain ⟨d, r, rfl, h1, h⟩ := List.map_eq_cons_iff.1 h
   obtain rfl := List.map_eq_nil_iff.1 h
   obtain ⟨n, rfl⟩ := kd_str h1
   exact ⟨n, rfl⟩
  case origin => exact kinds_origin h
  case row => exact kinds_row h
  case val => exact kinds_val h
  case token => exact kinds_token h
  case expr => exact kinds_expr h
  case cell => exact kinds_cell h
  case notebook => exact kinds_notebook h
  case part => exact kinds_part h
  case rd => exact kinds_rd h
  case psr => exact kinds_psr h
end Go.Abs
