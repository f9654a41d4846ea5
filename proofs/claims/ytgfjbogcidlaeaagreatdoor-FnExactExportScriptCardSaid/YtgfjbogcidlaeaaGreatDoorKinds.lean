import Derived.Test.YtgfjbogcidlaeaaGreatDoorAbs
/- Cells of the right kinds are data of the type. Written by genkinds.py. -/
set_option linter.unusedSimpArgs false
namespace Go.Abs
theorem dZ {d : D} {k : IntKind} (h : kd d = .int k) : ∃ n, d = .int k n := by
 cases d <;> simp only [kd] at h <;> cases h
 exact ⟨_, rfl⟩
theorem abz {d : D} (h : kd d = .bool) : ∃ b, d = .bool b := by
 cases d <;> simp only [kd] at h <;> cases h
 exact ⟨_, rfl⟩
theorem uz {d : D} (h : kd d = .str) : ∃ s, d = .str s := by
 cases d <;> simp only [kd] at h <;> cases h
 exact ⟨_, rfl⟩
theorem jg {d : D} {t : Ty} (h : kd d = .list t) : ∃ xs, d = .list t xs := by
 cases d <;> simp only [kd] at h <;> cases h
 exact ⟨_, rfl⟩
def Base.kinds : Base -> List Kd
 | .int => [.int .i64] | .u8 => [.int .u8] | .bool => [.bool] | .str => [.str]
 | .origin => [.int .i64, .int .i64]
 | .row => [.list (.base .int), .list (.base .origin)]
 | .val => [.int .i64, .int .i64, .int .i64, .str, .list (.base .val), .list (.base .str), .list (.base .row)]
 | .token => [.int .i64, .int .i64, .int .i64, .str]
 | .expr => [.int .i64, .int .i64, .str, .list (.base .expr)]
 | .cell => [.int .i64, .int .i64, .int .i64, .str, .str, .int .i64]
 | .notebook => [.list (.base .cell)]
 | .part => [.int .i64, .str, .int .i64, .int .i64, .str, .list (.base .expr), .int .i64, .int .i64, .int .i64, .str, .list (.base .val), .list (.base .str), .list (.base .row), .int .i64]
 | .rd => [.list (.base .token), .int .i64, .int .i64, .int .i64]
 | .psr => [.list (.base .token), .int .i64, .int .i64]
def Ty.kinds : Ty -> List Kd
 | .base b => b.kinds
 | .list t => [.list t]
theorem Ph {ds : List D} (h : ds.map kd = Base.kinds .origin) : ∃ x, rF ds = some x := by
 obtain ⟨d0, r0, rfl, h0, h⟩ := zH.1 h
 obtain ⟨d1, r1, rfl, h1, h⟩ := zH.1 h
 obtain rfl := List.map_eq_nil_iff.1 h
 obtain ⟨x0, rfl⟩ := dZ h0
 obtain ⟨x1, rfl⟩ := dZ h1
 refine Option.isSome_iff_exists.1 ?_
 simp [rF, D.dQ]
theorem XM {ds : List D} (h : ds.map kd = Base.kinds .row) : ∃ x, IG ds = some x := by
 obtain ⟨d0, r0, rfl, h0, h⟩ := zH.1 h
 obtain ⟨d1, r1, rfl, h1, h⟩ := zH.1 h
 obtain rfl := List.map_eq_nil_iff.1 h
 obtain ⟨x0, rfl⟩ := jg h0
 obtain ⟨x1, rfl⟩ := jg h1
 refine Option.isSome_iff_exists.1 ?_
 simp [IG, D.dQ]
theorem XL {ds : List D} (h : ds.map kd = Base.kinds .val) : ∃ x, IE ds = some x := by
 obtain ⟨d0, r0, rfl, h0, h⟩ := zH.1 h
 obtain ⟨d1, r1, rfl, h1, h⟩ := zH.1 h
 obtain ⟨d2, r2, rfl, h2, h⟩ := zH.1 h
 obtain ⟨d3, r3, rfl, h3, h⟩ := zH.1 h
 obtain ⟨d4, r4, rfl, h4, h⟩ := zH.1 h
 obtain ⟨d5, r5, rfl, h5, h⟩ := zH.1 h
 obtain ⟨d6, r6, rfl, h6, h⟩ := zH.1 h
 obtain rfl := List.map_eq_nil_iff.1 h
 obtain ⟨x0, rfl⟩ := dZ h0
 obtain ⟨x1, rfl⟩ := dZ h1
 obtain ⟨x2, rfl⟩ := dZ h2
 obtain ⟨x3, rfl⟩ := uz h3
 obtain ⟨x4, rfl⟩ := jg h4
 obtain ⟨x5, rfl⟩ := jg h5
 obtain ⟨x6, rfl⟩ := jg h6
 refine Option.isSome_iff_exists.1 ?_
 simp [IE, D.dQ]
theorem Rz {ds : List D} (h : ds.map kd = Base.kinds .token) : ∃ x, wK ds = some x := by
 obtain ⟨d0, r0, rfl, h0, h⟩ := zH.1 h
 obtain ⟨d1, r1, rfl, h1, h⟩ := zH.1 h
 obtain ⟨d2, r2, rfl, h2, h⟩ := zH.1 h
 obtain ⟨d3, r3, rfl, h3, h⟩ := zH.1 h
 obtain rfl := List.map_eq_nil_iff.1 h
 obtain ⟨x0, rfl⟩ := dZ h0
 obtain ⟨x1, rfl⟩ := dZ h1
 obtain ⟨x2, rfl⟩ := dZ h2
 obtain ⟨x3, rfl⟩ := uz h3
 refine Option.isSome_iff_exists.1 ?_
 simp [wK, D.dQ]
theorem UY {ds : List D} (h : ds.map kd = Base.kinds .expr) : ∃ x, BF ds = some x := by
 obtain ⟨d0, r0, rfl, h0, h⟩ := zH.1 h
 obtain ⟨d1, r1, rfl, h1, h⟩ := zH.1 h
 obtain ⟨d2, r2, rfl, h2, h⟩ := zH.1 h
 obtain ⟨d3, r3, rfl, h3, h⟩ := zH.1 h
 obtain rfl := List.map_eq_nil_iff.1 h
 obtain ⟨x0, rfl⟩ := dZ h0
 obtain ⟨x1, rfl⟩ := dZ h1
 obtain ⟨x2, rfl⟩ := uz h2
 obtain ⟨x3, rfl⟩ := jg h3
 refine Option.isSome_iff_exists.1 ?_
 simp [BF, D.dQ]
theorem UZ {ds : List D} (h : ds.map kd = Base.kinds .cell) : ∃ x, of_cell ds = some x := by
 obtain ⟨d0, r0, rfl, h0, h⟩ := zH.1 h
 obtain ⟨d1, r1, rfl, h1, h⟩ := zH.1 h
 obtain ⟨d2, r2, rfl, h2, h⟩ := zH.1 h
 obtain ⟨d3, r3, rfl, h3, h⟩ := zH.1 h
 obtain ⟨d4, r4, rfl, h4, h⟩ := zH.1 h
 obtain ⟨d5, r5, rfl, h5, h⟩ := zH.1 h
 obtain rfl := List.map_eq_nil_iff.1 h
 obtain ⟨x0, rfl⟩ := dZ h0
 obtain ⟨x1, rfl⟩ := dZ h1
 obtain ⟨x2, rfl⟩ := dZ h2
 obtain ⟨x3, rfl⟩ := uz h3
 obtain ⟨x4, rfl⟩ := uz h4
 obtain ⟨x5, rfl⟩ := dZ h5
 refine Option.isSome_iff_exists.1 ?_
 simp [of_cell, D.dQ]
theorem Je {ds : List D} (h : ds.map kd = Base.kinds .notebook) : ∃ x, mW ds = some x := by
 obtain ⟨d0, r0, rfl, h0, h⟩ := zH.1 h
 obtain rfl := List.map_eq_nil_iff.1 h
 obtain ⟨x0, rfl⟩ := jg h0
 refine Option.isSome_iff_exists.1 ?_
 simp [mW, D.dQ]
theorem UX {ds : List D} (h : ds.map kd = Base.kinds .part) : ∃ x, BD ds = some x := by
 obtain ⟨d0, r0, rfl, h0, h⟩ := zH.1 h
 obtain ⟨d1, r1, rfl, h1, h⟩ := zH.1 h
 obtain ⟨d2, r2, rfl, h2, h⟩ := zH.1 h
 obtain ⟨d3, r3, rfl, h3, h⟩ := zH.1 h
 obtain ⟨d4, r4, rfl, h4, h⟩ := zH.1 h
 obtain ⟨d5, r5, rfl, h5, h⟩ := zH.1 h
 obtain ⟨d6, r6, rfl, h6, h⟩ := zH.1 h
 obtain ⟨d7, r7, rfl, h7, h⟩ := zH.1 h
 obtain ⟨d8, r8, rfl, h8, h⟩ := zH.1 h
 obtain ⟨d9, r9, rfl, h9, h⟩ := zH.1 h
 obtain ⟨d10, r10, rfl, h10, h⟩ := zH.1 h
 obtain ⟨d11, r11, rfl, h11, h⟩ := zH.1 h
 obtain ⟨d12, r12, rfl, h12, h⟩ := zH.1 h
 obtain ⟨d13, r13, rfl, h13, h⟩ := zH.1 h
 obtain rfl := List.map_eq_nil_iff.1 h
 obtain ⟨x0, rfl⟩ := dZ h0
 obtain ⟨x1, rfl⟩ := uz h1
 obtain ⟨x2, rfl⟩ := dZ h2
 obtain ⟨x3, rfl⟩ := dZ h3
 obtain ⟨x4, rfl⟩ := uz h4
 obtain ⟨x5, rfl⟩ := jg h5
 obtain ⟨x6, rfl⟩ := dZ h6
 obtain ⟨x7, rfl⟩ := dZ h7
 obtain ⟨x8, rfl⟩ := dZ h8
 obtain ⟨x9, rfl⟩ := uz h9
 obtain ⟨x10, rfl⟩ := jg h10
 obtain ⟨x11, rfl⟩ := jg h11
 obtain ⟨x12, rfl⟩ := jg h12
 obtain ⟨x13, rfl⟩ := dZ h13
 refine Option.isSome_iff_exists.1 ?_
 simp [BD, D.dQ]
theorem ZF {ds : List D} (h : ds.map kd = Base.kinds .rd) : ∃ x, Rj ds = some x := by
 obtain ⟨d0, r0, rfl, h0, h⟩ := zH.1 h
 obtain ⟨d1, r1, rfl, h1, h⟩ := zH.1 h
 obtain ⟨d2, r2, rfl, h2, h⟩ := zH.1 h
 obtain ⟨d3, r3, rfl, h3, h⟩ := zH.1 h
 obtain rfl := List.map_eq_nil_iff.1 h
 obtain ⟨x0, rfl⟩ := jg h0
 obtain ⟨x1, rfl⟩ := dZ h1
 obtain ⟨x2, rfl⟩ := dZ h2
 obtain ⟨x3, rfl⟩ := dZ h3
 refine Option.isSome_iff_exists.1 ?_
 simp [Rj, D.dQ]
theorem XO {ds : List D} (h : ds.map kd = Base.kinds .psr) : ∃ x, II ds = some x := by
 obtain ⟨d0, r0, rfl, h0, h⟩ := zH.1 h
 obtain ⟨d1, r1, rfl, h1, h⟩ := zH.1 h
 obtain ⟨d2, r2, rfl, h2, h⟩ := zH.1 h
 obtain rfl := List.map_eq_nil_iff.1 h
 obtain ⟨x0, rfl⟩ := jg h0
 obtain ⟨x1, rfl⟩ := dZ h1
 obtain ⟨x2, rfl⟩ := dZ h2
 refine Option.isSome_iff_exists.1 ?_
 simp [II, D.dQ]
theorem yP {t : Ty} {ds : List D} (h : ds.map kd = t.kinds) : ∃ x, t.dJ ds = some x := by
 cases t with
 | list t =>
  obtain ⟨d, r, rfl, h1, h⟩ := zH.1 h
  obtain rfl := List.map_eq_nil_iff.1 h
  obtain ⟨xs, rfl⟩ := jg h1
  exact ⟨xs, by simp [Ty.dJ, D.dQ]⟩
 | base b =>
  cases b
  case int =>
   obtain ⟨d, r, rfl, h1, h⟩ := zH.1 h
   obtain rfl := List.map_eq_nil_iff.1 h
   obtain ⟨n, rfl⟩ := dZ h1
   exact ⟨n, rfl⟩
  case u8 =>
   obtain ⟨d, r, rfl, h1, h⟩ := zH.1 h
   obtain rfl := List.map_eq_nil_iff.1 h
   obtain ⟨n, rfl⟩ := dZ h1
   exact ⟨n, rfl⟩
  case bool =>
   obtain ⟨d, r, rfl, h1, h⟩ := zH.1 h
   obtain rfl := List.map_eq_nil_iff.1 h
   obtain ⟨n, rfl⟩ := abz h1
   exact ⟨n, rfl⟩
  case str =>
   obtain ⟨d, r, rfl, h1, h⟩ := zH.1 h
   obtain rfl := List.map_eq_nil_iff.1 h
   obtain ⟨n, rfl⟩ := uz h1
   exact ⟨n, rfl⟩
  case origin => exact Ph h
  case row => exact XM h
  case val => exact XL h
  case token => exact Rz h
  case expr => exact UY h
  case cell => exact UZ h
  case notebook => exact Je h
  case part => exact UX h
  case rd => exact ZF h
  case psr => exact XO h
end Go.Abs
