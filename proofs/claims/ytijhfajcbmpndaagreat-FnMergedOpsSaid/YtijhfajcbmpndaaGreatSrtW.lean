/- The order by which operations are sorted: the closure's walk. -/
import Derived.Test.YtijhfajcbmpndaaGreatLay
import Derived.Test.YtijhfajcbmpndaaGreatSrt0
import Derived.Test.YtijhfajcbmpndaaGreatLtOp
import Derived.StillTailTactics
set_option linter.unusedSimpArgs false
set_option linter.unusedVariables false
namespace Go.Proofs.YtijhfajcbmpndaaGreat
open Go.Abs Go.Proofs Go.Shelf Go.RowKit Go.Lib Go.Sort

/-- an operation's cells: its time, its replica, and fifteen more -/
def linkOp (x : GOp) (cs : List Value) : Prop := ∃ r : List Value, cs = .int .i64 x.time :: .int .i64 x.by_ :: r
theorem linkOp_of (w : World) (S : Nat → Nat → Prop) (deep : Bool) (x : GOp) (cs : List Value) (fps : Nat → Nat → Prop) (hl : cs.length = (Ty.base .op).size)
    (h : ∀ (j : Nat) (d : D) (v : Value), ((Ty.base .op).cells x)[j]? = some d → cs[j]? = some v → Ow w S deep d v (fps j)) : linkOp x cs := by
  match cs, hl with
  | a :: b :: r, _ =>
    have h0 := h 0 _ a rfl rfl
    have h1 := h 1 _ b rfl rfl
    have e : ∀ {n : Int} {v : Value} {fp : Nat → Prop}, Ow w S deep (.int .i64 n) v fp → v = .int .i64 n := fun h => by
      cases h with
      | int k n => rfl
      | ro d v fp hd h => cases h; rfl
    exact ⟨r, by rw [e h0, e h1]⟩

set_option maxHeartbeats 2000000 in
set_option maxRecDepth 100000 in
theorem opBefore_walk (xi xj : GOp) (ri rj : List Value) (W : World) :
    Calls Tryz.prog 34 #[.agg (.int .i64 xi.time :: .int .i64 xi.by_ :: ri).toArray, .agg (.int .i64 xj.time :: .int .i64 xj.by_ :: rj).toArray] W fun e w' => e = .returned (.bool (ltOp xi xj)) ∧ ∃ m os, w' = grow (Sort.ahead W m) os := by
  have mixed := sl8.mixed
  go_enter Tryz.func34, Tryz.ntmps34
  go_wp2
  all_goals
    go_ret
    refine ⟨?_, 0, _, by rw [alloc_eq_grow, alloc_eq_grow, grow_grow]; rfl⟩
  · show Ending.returned (.bool (decide (xi.by_ < xj.by_))) = _
    have e : xi.time = xj.time := by assumption
    simp [ltOp, e]
  · show Ending.returned (.bool (decide (xi.time < xj.time))) = _
    have e : ¬ xi.time = xj.time := by assumption
    have e2 : (xi.time == xj.time) = false := by simpa using e
    simp [ltOp, e2]
  · show Ending.returned (.bool true) = _
    have e : xi.time < xj.time := by assumption
    simp [ltOp, e]

theorem fifteen {α : Type} (l : List α) (h : l.length = 15) : ∃ a2 a3 a4 a5 a6 a7 a8 a9 a10 a11 a12 a13 a14 a15 a16, l = [a2, a3, a4, a5, a6, a7, a8, a9, a10, a11, a12, a13, a14, a15, a16] := by
  match l, h with
  | [a2, a3, a4, a5, a6, a7, a8, a9, a10, a11, a12, a13, a14, a15, a16], _ => exact ⟨_, _, _, _, _, _, _, _, _, _, _, _, _, _, _, rfl⟩
set_option maxHeartbeats 4000000 in
set_option maxRecDepth 100000 in
theorem less_walk : LessOn Tryz.prog 33 (.base .op) linkOp ltOp := by
  intro W bb blk n cap i j xi xj ci cj hi hj hn hbx hci hcj hli hlj h1i h1j lxi lxj
  obtain ⟨ri, rfl⟩ := lxi
  obtain ⟨rj, rfl⟩ := lxj
  obtain ⟨a2, a3, a4, a5, a6, a7, a8, a9, a10, a11, a12, a13, a14, a15, a16, rfl⟩ : ∃ a2 a3 a4 a5 a6 a7 a8 a9 a10 a11 a12 a13 a14 a15 a16, ri = [a2, a3, a4, a5, a6, a7, a8, a9, a10, a11, a12, a13, a14, a15, a16] := fifteen ri (by have := hli; change ri.length + 1 + 1 = 17 at this; omega)
  obtain ⟨b2, b3, b4, b5, b6, b7, b8, b9, b10, b11, b12, b13, b14, b15, b16, rfl⟩ : ∃ b2 b3 b4 b5 b6 b7 b8 b9 b10 b11 b12 b13 b14 b15 b16, rj = [b2, b3, b4, b5, b6, b7, b8, b9, b10, b11, b12, b13, b14, b15, b16] := fifteen rj (by have := hlj; change rj.length + 1 + 1 = 17 at this; omega)
  have ci0 : W.cell? ⟨blk, i * 17, none⟩ = some (.int .i64 xi.time) := hci 0 (by decide)
  have ci1 : W.cell? ⟨blk, i * 17 + 1, none⟩ = some (.int .i64 xi.by_) := hci 1 (by decide)
  have ci2 : W.cell? ⟨blk, i * 17 + 2, none⟩ = some a2 := hci 2 (by decide)
  have ci3 : W.cell? ⟨blk, i * 17 + 3, none⟩ = some a3 := hci 3 (by decide)
  have ci4 : W.cell? ⟨blk, i * 17 + 4, none⟩ = some a4 := hci 4 (by decide)
  have ci5 : W.cell? ⟨blk, i * 17 + 5, none⟩ = some a5 := hci 5 (by decide)
  have ci6 : W.cell? ⟨blk, i * 17 + 6, none⟩ = some a6 := hci 6 (by decide)
  have ci7 : W.cell? ⟨blk, i * 17 + 7, none⟩ = some a7 := hci 7 (by decide)
  have ci8 : W.cell? ⟨blk, i * 17 + 8, none⟩ = some a8 := hci 8 (by decide)
  have ci9 : W.cell? ⟨blk, i * 17 + 9, none⟩ = some a9 := hci 9 (by decide)
  have ci10 : W.cell? ⟨blk, i * 17 + 10, none⟩ = some a10 := hci 10 (by decide)
  have ci11 : W.cell? ⟨blk, i * 17 + 11, none⟩ = some a11 := hci 11 (by decide)
  have ci12 : W.cell? ⟨blk, i * 17 + 12, none⟩ = some a12 := hci 12 (by decide)
  have ci13 : W.cell? ⟨blk, i * 17 + 13, none⟩ = some a13 := hci 13 (by decide)
  have ci14 : W.cell? ⟨blk, i * 17 + 14, none⟩ = some a14 := hci 14 (by decide)
  have ci15 : W.cell? ⟨blk, i * 17 + 15, none⟩ = some a15 := hci 15 (by decide)
  have ci16 : W.cell? ⟨blk, i * 17 + 16, none⟩ = some a16 := hci 16 (by decide)
  have cj0 : W.cell? ⟨blk, j * 17, none⟩ = some (.int .i64 xj.time) := hcj 0 (by decide)
  have cj1 : W.cell? ⟨blk, j * 17 + 1, none⟩ = some (.int .i64 xj.by_) := hcj 1 (by decide)
  have cj2 : W.cell? ⟨blk, j * 17 + 2, none⟩ = some b2 := hcj 2 (by decide)
  have cj3 : W.cell? ⟨blk, j * 17 + 3, none⟩ = some b3 := hcj 3 (by decide)
  have cj4 : W.cell? ⟨blk, j * 17 + 4, none⟩ = some b4 := hcj 4 (by decide)
  have cj5 : W.cell? ⟨blk, j * 17 + 5, none⟩ = some b5 := hcj 5 (by decide)
  have cj6 : W.cell? ⟨blk, j * 17 + 6, none⟩ = some b6 := hcj 6 (by decide)
  have cj7 : W.cell? ⟨blk, j * 17 + 7, none⟩ = some b7 := hcj 7 (by decide)
  have cj8 : W.cell? ⟨blk, j * 17 + 8, none⟩ = some b8 := hcj 8 (by decide)
  have cj9 : W.cell? ⟨blk, j * 17 + 9, none⟩ = some b9 := hcj 9 (by decide)
  have cj10 : W.cell? ⟨blk, j * 17 + 10, none⟩ = some b10 := hcj 10 (by decide)
  have cj11 : W.cell? ⟨blk, j * 17 + 11, none⟩ = some b11 := hcj 11 (by decide)
  have cj12 : W.cell? ⟨blk, j * 17 + 12, none⟩ = some b12 := hcj 12 (by decide)
  have cj13 : W.cell? ⟨blk, j * 17 + 13, none⟩ = some b13 := hcj 13 (by decide)
  have cj14 : W.cell? ⟨blk, j * 17 + 14, none⟩ = some b14 := hcj 14 (by decide)
  have cj15 : W.cell? ⟨blk, j * 17 + 15, none⟩ = some b15 := hcj 15 (by decide)
  have cj16 : W.cell? ⟨blk, j * 17 + 16, none⟩ = some b16 := hcj 16 (by decide)
  clear hci hcj hli hlj h1i h1j
  have ho := fun W' => opBefore_walk xi xj [a2, a3, a4, a5, a6, a7, a8, a9, a10, a11, a12, a13, a14, a15, a16] [b2, b3, b4, b5, b6, b7, b8, b9, b10, b11, b12, b13, b14, b15, b16] W'
  have mixed := sl8.mixed
  go_enter Tryz.func33, Tryz.ntmps33
  go_wp2
  go_still_tail 8, (by kernel_rfl)
  change wpList _ _ _ _ _ W.drew
  clear ci0 ci1 ci2 ci3 ci4 ci5 ci6 ci7 ci8 ci9 ci10 ci11 ci12 ci13 ci14 ci15 ci16 cj0 cj1 cj2 cj3 cj4 cj5 cj6 cj7 cj8 cj9 cj10 cj11 cj12 cj13 cj14 cj15 cj16 hbx
  go_wp2_with (go_at_call 34; refine (ho _).mono ?_; rintro e w' ⟨rfl, m, os, rfl⟩)
  go_ret
  exact ⟨rfl, 1 + m, os, by rw [drew_eq_ahead, ahead_ahead]⟩
end Go.Proofs.YtijhfajcbmpndaaGreat
