/- Plain laws: drawn notebooks, edits and batches. -/
import Derived.Test.YtmadjfnpidahnaaDr1
import Derived.Test.YtmadjfnpidahnaaBat1
set_option linter.unusedSimpArgs false
set_option linter.unusedVariables false
namespace Go.Proofs.Ytmadjfnpidahnaa
open Go.Abs Go.Proofs

theorem Dr.join {X β : Type} {p : Option (X ⊕ (GCur × β))} {P : X → Prop} {k : X → Option (GCur × β)} {Q : β → Prop} (hp : ∃ st, p = some (.inl st) ∧ P st) (hk : ∀ st, P st → Dr (k st) Q) : Dr (joinD p k) Q := by
  obtain ⟨st, e, h⟩ := hp
  rw [e]
  exact hk st h
theorem ex_join {X ρ : Type} {p : Option (X ⊕ ρ)} {P : X → Prop} {k : X → Option ρ} {G : Option ρ → Prop} (hp : ∃ st, p = some (.inl st) ∧ P st) (hk : ∀ st, P st → G (k st)) : G (joinD p k) := by
  obtain ⟨st, e, h⟩ := hp
  rw [e]
  exact hk st h
abbrev CellF (x : GCell) : Prop := Fit B20 (.base .cell) x
abbrev I64 (n : Int) : Prop := FitD B20 (.int .i64 n)
theorem i64 {n : Int} (h0 : -1000000000 ≤ n) (h1 : n ≤ 1000000000) : I64 n := intB h0 h1
theorem cellF_mk {id v k n : Int} {nm cd : Str} : CellF (GCell.mk id v k nm cd n) ↔ I64 id ∧ I64 v ∧ I64 k ∧ FitD B20 (.str nm) ∧ FitD B20 (.str cd) ∧ I64 n := by
  show Fit B20 (.base .cell) _ ↔ _
  rw [fit_cell]
theorem cellF_iff {x : GCell} : CellF x ↔ I64 x.id ∧ I64 x.version ∧ I64 x.kind ∧ FitD B20 (.str x.name) ∧ FitD B20 (.str x.code) ∧ I64 x.n := by
  show Fit B20 (.base .cell) _ ↔ _
  rw [fit_cell]
theorem editF {k p : Int} {x : GCell} (h1 : I64 k) (h2 : I64 p) (h3 : CellF x) : FitE (GEdit.mk k p x) := by
  show Fit B20 (.base .edit) _
  rw [fit_edit]; exact ⟨h1, h2, h3⟩
/-- a drawn notebook -/
structure NbD (m : Nat) (x : GNotebook) : Prop where
  len : x.cells.length ≤ m
  fit : ∀ c, c ∈ x.cells → CellF c
theorem NbD.nb {m : Nat} {x : GNotebook} (h : NbD m x) (hm : m ≤ 1000) : Fit B20 (.base .notebook) x := by
  rw [fit_notebook]; exact mkList20 (by have := h.len; omega) h.fit
theorem w64_nat {n : Nat} (h : n ≤ 1000000) : w64 ((n : Int) + 1) = ((n + 1 : Nat) : Int) := by rw [w64_id (by omega) (by omega)]; omega
theorem draw17_dr {c : GCur} (h : CurOk c) (b : Int) (h0 : 0 ≤ b) (h1 : b ≤ 8) : Dr (sL17Draw c b) fun x => NbD b.toNat x ∧ ∀ y, y ∈ x.cells → y.code.length ≤ 600 := by
  unfold sL17Draw
  have hw : w64 (b + 1) = b + 1 := w64_id (by omega) (by omega)
  rw [hw]
  refine Dr.bind (below_dr h (b + 1)) fun c1 n k1 p1 => ?_
  have hn := p1.2 (by omega)
  obtain ⟨m, rfl⟩ := nat_of p1.1
  refine Dr.of (count_ex (fun (z : GCur × List GCell) (i : Nat) => ((z.1.b, z.1.i, z.1.h, [], z.2, (m : Int), (i : Int)) : (List Int) × Int × Int × (List GCell) × (List GCell) × Int × Int)) m
    (fun i z => CurOk z.1 ∧ z.2.length = i ∧ ∀ y, y ∈ z.2 → CellF y ∧ y.code.length ≤ 600) (fun (r : GCur × GNotebook) => CurOk r.1 ∧ NbD b.toNat r.2 ∧ ∀ y, y ∈ r.2.cells → y.code.length ≤ 600) (fun i z hi hz => ?_) (fun z hz => ?_) (c1, []) ⟨k1, rfl, fun y hy => (by cases hy)⟩)
  · obtain ⟨hc, hl, hy⟩ := hz
    have hwi : w64 ((i : Int) + 1) = (i : Int) + 1 := w64_id (by omega) (by omega)
    obtain ⟨c2, x, e2, k2, px⟩ := cell_dr hc ((i : Int) + 1) (by omega) (by omega)
    have wl : w64 ((z.2.length : Int) + 1) = ((z.2.length + 1 : Nat) : Int) := w64_nat (by omega)
    -- the cell is set somewhere
    have put : ∀ (c3 : GCur) (y : GCell), CurOk c3 → CellF y → y.code.length ≤ 600 → ∃ z' : GCur × List GCell,
        ((sL1Below c3 (w64 ((z.2.length : Int) + 1))).bind fun r7 =>
          (eff.cutL z.2 none (some r7.2)).bind fun r8 =>
          (gd (0 + r8.length)).bind fun _ =>
          (gd (([] ++ r8).length + [y].length)).bind fun _ =>
          (eff.cutL z.2 (some r7.2) none).bind fun r9 =>
          (gd ((([] ++ r8) ++ [y]).length + r9.length)).bind fun _ =>
          some ((.inl (r7.1.b, r7.1.i, r7.1.h, [], (([] ++ r8) ++ [y]) ++ r9, (m : Int), w64 ((i : Int) + 1))) : ((List Int) × Int × Int × (List GCell) × (List GCell) × Int × Int) ⊕ (GCur × GNotebook))) =
          some (.inl (z'.1.b, z'.1.i, z'.1.h, [], z'.2, (m : Int), ((i + 1 : Nat) : Int))) ∧ CurOk z'.1 ∧ z'.2.length = i + 1 ∧ ∀ y, y ∈ z'.2 → CellF y ∧ y.code.length ≤ 600 := by
      intro c3 y k3 hyf hyc
      obtain ⟨c4, a, e4, k4, p4, q4⟩ := below_ok k3 ((z.2.length + 1 : Nat) : Int)
      have := q4 (by omega)
      obtain ⟨q, rfl⟩ := nat_of p4
      have hq : q ≤ z.2.length := by omega
      refine ⟨(c4, (([] ++ z.2.take q) ++ [y]) ++ z.2.drop q), ?_, k4, by simp; omega, fun x hx => ?_⟩
      · rw [wl, e4]
        simp only [Option.bind_some, cutL_to z.2 q hq, cutL_from z.2 q hq]
        rw [gd_ok (by simp; omega), Option.bind_some, gd_ok (by simp; omega), Option.bind_some, gd_ok (by simp; omega), Option.bind_some, hwi]
        rfl
      · simp only [List.nil_append, List.mem_append, List.mem_singleton] at hx
        rcases hx with (hx | rfl) | hx
        · exact hy x (List.mem_of_mem_take hx)
        · exact ⟨hyf, hyc⟩
        · exact hy x (List.mem_of_mem_drop hx)
    simp only [cnt_lt hi, cond_true, hwi] at put ⊢
    rw [e2]
    simp only [Option.bind_some]
    cases hk : (x.kind != 1) with
    | false => exact put c2 x k2 px.fit px.code
    | true =>
      obtain ⟨c3, b3, e3, k3⟩ := once_ok k2 10
      simp only [cond_true, e3, Option.bind_some]
      cases b3 with
      | true => exact put c3 x k3 px.fit px.code
      | false =>
        obtain ⟨s, es, _, es'⟩ := idx_get (xs := ([[97], [98], [99], [100], [101], [97, 49], [98, 49], [99, 49]] : List Str)) (n := i) (by show i < 8; omega)
        have hs : s.length ≤ 2 := by
          have := List.mem_of_getElem? es'
          simp at this
          rcases this with rfl | rfl | rfl | rfl | rfl | rfl | rfl | rfl <;> simp
        simp only [Bool.not_false, cond_true, es, Int.toNat_natCast, es', Option.bind_some]
        have pf := cellF_iff.1 px.fit
        exact put c3 (GCell.mk x.id x.version x.kind s x.code x.n) k3 (cellF_mk.2 ⟨pf.1, pf.2.1, pf.2.2.1, strB (by omega), pf.2.2.2.2.1, pf.2.2.2.2.2⟩) px.code
  · obtain ⟨hc, hl, hy⟩ := hz
    exact ⟨(z.1, GNotebook.mk z.2), by simp only [nlt_self, cond_false], hc, ⟨by show z.2.length ≤ _; omega, fun y h => (hy y h).1⟩, fun y h => (hy y h).2⟩
theorem bent17_dr {c : GCur} (h : CurOk c) : Dr (sL17Bent c) (NbD 9) := by
  unfold sL17Bent
  refine Dr.bind (draw17_dr h 6 (by omega) (by omega)) fun c1 nb k1 p1 => ?_
  obtain ⟨p1, pc⟩ := p1
  have hl : nb.cells.length ≤ 6 := p1.len
  have p9 : NbD 9 nb := ⟨by omega, p1.fit⟩
  refine Dr.bif (fun _ => .ret k1 p9) fun h0 => ?_
  have h0 : nb.cells.length ≠ 0 := by simpa using h0
  refine Dr.bind (below_dr k1 _) fun c2 q k2 p2 => ?_
  have hq := p2.2 (by show (0 : Int) < (nb.cells.length : Int); omega)
  obtain ⟨q, rfl⟩ := nat_of p2.1
  have hq : q < nb.cells.length := by have : ((q : Int)) < (nb.cells.length : Int) := hq; omega
  obtain ⟨x, ex, hxm, ex'⟩ := idx_get hq
  refine Dr.bind (below_dr k2 12) fun c3 s k3 p3 => ?_
  have fx := cellF_iff.1 (p1.fit x hxm)
  have set : ∀ {y : GCell}, CellF y → NbD 9 (GNotebook.mk (nb.cells.set q y)) := fun {y} hy => ⟨by show (nb.cells.set q y).length ≤ 9; rw [List.length_set]; omega, fun z hz => by
    rcases mem_set hz with hz | rfl
    · exact p1.fit z hz
    · exact hy⟩
  simp only [ex, ex', Int.toNat_natCast, Option.bind_some]
  refine Dr.bif (fun _ => ?_) fun _ => Dr.bif (fun _ => ?_) fun _ => Dr.bif (fun _ => ?_) fun _ => Dr.bif (fun _ => ?_) fun _ => Dr.bif (fun _ => ?_) fun _ => Dr.bif (fun _ => ?_) fun _ => .ret k3 p9
  · refine Dr.bind (pickInt_dr k3 _ (by simp)) fun c4 n k4 p4 => .ret k4 (set (cellF_mk.2 ⟨i64 ?_ ?_, fx.2⟩)) <;> (simp at p4; omega)
  · refine Dr.bind (pickInt_dr k3 _ (by simp)) fun c4 n k4 p4 => .ret k4 (set (cellF_mk.2 ⟨fx.1, i64 ?_ ?_, fx.2.2⟩)) <;> (simp at p4; omega)
  · refine Dr.bind (below_dr k3 6) fun c4 n k4 p4 => .ret k4 (set (cellF_mk.2 ⟨fx.1, fx.2.1, i64 ?_ ?_, fx.2.2.2⟩)) <;> (have := p4.2 (by omega); have := p4.1; omega)
  · have := pc x hxm
    exact Dr.gd (by simp; omega) (.ret k3 (set (cellF_mk.2 ⟨fx.1, fx.2.1, fx.2.2.1, fx.2.2.2.1, strB (by simp; omega), fx.2.2.2.2.2⟩)))
  · refine Dr.bind (pick_dr k3 _ (by simp)) fun c4 n k4 p4 => .ret k4 (set (cellF_mk.2 ⟨fx.1, fx.2.1, fx.2.2.1, strB ?_, fx.2.2.2.2⟩))
    simp at p4
    rcases p4 with rfl | rfl | rfl <;> simp
  · -- cells are added until there are eight or nine
    have key : ∀ (f : Nat) (c : GCur) (l : List GCell), CurOk c → l.length ≤ 9 → 9 ≤ l.length + f → (∀ y, y ∈ l → CellF y) → ∃ r : GCur × GNotebook, loopD (fun (x20 : (List Int) × Int × Int × (List GCell) × (List GCell)) =>
      (sL1Below (GCur.mk x20.1 x20.2.1 x20.2.2.1) 2).bind fun r21 =>
      bif (decide ((x20.2.2.2.2.length : Int) < (w64 (8 + r21.2)))) then
        (sL17Cell r21.1 (w64 (20 + (x20.2.2.2.2.length : Int)))).bind fun r22 =>
        (gd (x20.2.2.2.2.length + [r22.2].length)).bind fun _ =>
        some (.inl (r22.1.b, r22.1.i, r22.1.h, x20.2.2.2.1, x20.2.2.2.2 ++ [r22.2]))
      else
        some ((.inr (r21.1, GNotebook.mk x20.2.2.2.2)) : ((List Int) × Int × Int × (List GCell) × (List GCell)) ⊕ (GCur × GNotebook))
    ) (c.b, c.i, c.h, [], l) = some r ∧ CurOk r.1 ∧ NbD 9 r.2 := by
      intro f
      induction f with
      | zero =>
        intro c l hc hl9 hf hy
        obtain ⟨c4, a, e4, k4, p4, q4⟩ := below_ok hc 2
        have := q4 (by omega)
        have hw : w64 (8 + a) = 8 + a := w64_id (by omega) (by omega)
        rw [loopD_eq]
        simp only [e4, Option.bind_some, hw, decide_eq_false (show ¬ ((l.length : Int) < 8 + a) by omega), cond_false]
        exact ⟨_, rfl, k4, ⟨hl9, hy⟩⟩
      | succ f ih =>
        intro c l hc hl9 hf hy
        obtain ⟨c4, a, e4, k4, p4, q4⟩ := below_ok hc 2
        have := q4 (by omega)
        have hw : w64 (8 + a) = 8 + a := w64_id (by omega) (by omega)
        have hw2 : w64 (20 + (l.length : Int)) = 20 + (l.length : Int) := w64_id (by omega) (by omega)
        rw [loopD_eq]
        by_cases hlt : (l.length : Int) < 8 + a
        · obtain ⟨c5, y, e5, k5, py⟩ := cell_dr k4 (20 + (l.length : Int)) (by omega) (by omega)
          simp only [e4, Option.bind_some, hw, hw2, decide_eq_true hlt, cond_true, e5, gd_ok (show l.length + [y].length ≤ 34359738368 by simp; omega)]
          exact ih c5 (l ++ [y]) k5 (by simp; omega) (by simp; omega) fun z hz => by
            rcases List.mem_append.1 hz with hz | hz
            · exact hy z hz
            · rw [List.mem_singleton.1 hz]; exact py.fit
        · simp only [e4, Option.bind_some, hw, decide_eq_false hlt, cond_false]
          exact ⟨_, rfl, k4, ⟨hl9, hy⟩⟩
    exact Dr.of (key 9 c3 nb.cells k3 (by omega) (by omega) p1.fit)
theorem cellD_fit {id : Int} {x : GCell} (h : CellD id x) : CellF x := h.fit
abbrev T13 : Type := (List Int) × Int × Int × Int × Int × Int × Int × Int × Str × Str × Int × Int × Int × Int × Int × Int × Str × Str × Int × Int × Int × Int × Str × Str × Int × Int × Int × Int × Str × Str × Int
abbrev T9 : Type := (List Int) × Int × Int × Int × Int × Int × Int × Int × Str × Str × Int × Int × Int × Int × Int × Int × Str × Str × Int × Int × Int × Int × Str × Str × Int
theorem draw20_dr {c : GCur} (h : CurOk c) (nb : GNotebook) (hb : NbD 1000 nb) : Dr (sL20Draw c nb) FitE := by
  unfold sL20Draw
  refine Dr.bind (below_dr h 6) fun c1 x k1 p1 => Dr.bind (below_dr k1 10) fun c2 y k2 p2 => ?_
  have hx := p1.2 (by omega)
  have hx0 := p1.1
  have hy := p2.2 (by omega)
  have hy0 := p2.1
  have w1 : w64 (1 + x) = 1 + x := w64_id (by omega) (by omega)
  have w2 : w64 (y - 1) = y - 1 := w64_id (by omega) (by omega)
  simp only [w1, w2]
  refine Dr.join (P := fun st => CurOk (GCur.mk st.1 st.2.1 st.2.2.1) ∧ st.2.2.2.1 = nb.cells ∧ I64 st.2.2.2.2.2.2.2.2.2.2.2.2.1 ∧ I64 st.2.2.2.2.2.2.2.2.2.2.2.2.2.1) ?_ fun j hj => ?_
  · have k : I64 (1 + x) := i64 (by omega) (by omega)
    have p : I64 (y - 1) := i64 (by omega) (by omega)
    have o1 : I64 1 := i64 (by omega) (by omega)
    cases decide ((nb.cells.length : Int) < 2) with
    | false => exact ⟨_, rfl, k2, rfl, k, p⟩
    | true =>
      obtain ⟨c3, b3, e3, k3⟩ := once_ok k2 2
      simp only [cond_true, e3, Option.bind_some]
      cases b3 with
      | false => exact ⟨_, rfl, k3, rfl, k, p⟩
      | true => exact ⟨_, rfl, k3, rfl, o1, p⟩
  obtain ⟨kj, hcells, hk, hp⟩ := hj
  refine Dr.bif (fun _ => ?_) fun _ => ?_
  · refine Dr.bind (below_dr kj 20) fun c5 z k5 p5 => ?_
    have := p5.2 (by omega)
    have := p5.1
    have w3 : w64 (1 + z) = 1 + z := w64_id (by omega) (by omega)
    simp only [w3]
    exact Dr.bind (cell_dr k5 (1 + z) (by omega) (by omega)) fun c6 u k6 p6 => .ret k6 (editF hk hp p6.fit)
  refine Dr.bind (below_dr kj 8) fun c7 z k7 p7 => ?_
  have := p7.2 (by omega)
  have := p7.1
  have w3 : w64 (1 + z) = 1 + z := w64_id (by omega) (by omega)
  simp only [w3]
  refine Dr.bind (cell_dr k7 (1 + z) (by omega) (by omega)) fun c8 u k8 p8 => ?_
  have fu := cellF_iff.1 p8.fit
  refine Dr.join (P := fun st => CurOk (GCur.mk st.1 st.2.1 st.2.2.1) ∧ I64 st.2.2.2.2.2.2.2.2.2.2.2.1 ∧ I64 st.2.2.2.2.2.2.2.2.2.2.2.2.1 ∧ CellF (GCell.mk st.2.2.2.2.2.2.2.2.2.2.2.2.2.2.2.2.2.2.2.1 st.2.2.2.2.2.2.2.2.2.2.2.2.2.2.2.2.2.2.2.2.1 st.2.2.2.2.2.2.2.2.2.2.2.2.2.2.2.2.2.2.2.2.2.1 st.2.2.2.2.2.2.2.2.2.2.2.2.2.2.2.2.2.2.2.2.2.2.1 st.2.2.2.2.2.2.2.2.2.2.2.2.2.2.2.2.2.2.2.2.2.2.2.1 st.2.2.2.2.2.2.2.2.2.2.2.2.2.2.2.2.2.2.2.2.2.2.2.2)) ?_ fun j9 hj9 => ?_
  · -- the cell is made like one of the notebook's
    cases hcl : decide ((j.2.2.2.1.length : Int) > 0) with
    | false => exact ⟨_, rfl, k8, hk, hp, cellF_mk.2 fu⟩
    | true =>
      obtain ⟨c10, b10, e10, k10⟩ := once_ok k8 8
      simp only [cond_true, e10, Option.bind_some]
      cases b10 with
      | true => exact ⟨_, rfl, k10, hk, hp, cellF_mk.2 fu⟩
      | false =>
        have hcl := of_decide_eq_true hcl
        obtain ⟨c11, q, e11, k11, p11, q11⟩ := below_ok k10 (j.2.2.2.1.length : Int)
        have := q11 hcl
        obtain ⟨q, rfl⟩ := nat_of p11
        obtain ⟨v, ev, hvm, _⟩ := idx_get (xs := j.2.2.2.1) (n := q) (by omega)
        rw [hcells] at hvm
        have fv := cellF_iff.1 (hb.fit v hvm)
        simp only [Bool.not_false, cond_true, e11, ev, Option.bind_some]
        refine ex_join (P := fun (st : T13) => CurOk (GCur.mk st.1 st.2.1 st.2.2.1) ∧ I64 st.2.2.2.2.2.2.2.2.2.2.2.1 ∧ I64 st.2.2.2.2.2.2.2.2.2.2.2.2.1 ∧ CellF (GCell.mk st.2.2.2.2.2.2.2.2.2.2.2.2.2.2.2.2.2.2.2.1 st.2.2.2.2.2.2.2.2.2.2.2.2.2.2.2.2.2.2.2.2.1 st.2.2.2.2.2.2.2.2.2.2.2.2.2.2.2.2.2.2.2.2.2.1 st.2.2.2.2.2.2.2.2.2.2.2.2.2.2.2.2.2.2.2.2.2.2.1 st.2.2.2.2.2.2.2.2.2.2.2.2.2.2.2.2.2.2.2.2.2.2.2.1 st.2.2.2.2.2.2.2.2.2.2.2.2.2.2.2.2.2.2.2.2.2.2.2.2.1))
          (G := fun (z : Option (T9 ⊕ (GCur × GEdit))) => ∃ st : T9, z = some (Sum.inl st) ∧ CurOk (GCur.mk st.1 st.2.1 st.2.2.1) ∧ I64 st.2.2.2.2.2.2.2.2.2.2.2.1 ∧ I64 st.2.2.2.2.2.2.2.2.2.2.2.2.1 ∧ CellF (GCell.mk st.2.2.2.2.2.2.2.2.2.2.2.2.2.2.2.2.2.2.2.1 st.2.2.2.2.2.2.2.2.2.2.2.2.2.2.2.2.2.2.2.2.1 st.2.2.2.2.2.2.2.2.2.2.2.2.2.2.2.2.2.2.2.2.2.1 st.2.2.2.2.2.2.2.2.2.2.2.2.2.2.2.2.2.2.2.2.2.2.1 st.2.2.2.2.2.2.2.2.2.2.2.2.2.2.2.2.2.2.2.2.2.2.2.1 st.2.2.2.2.2.2.2.2.2.2.2.2.2.2.2.2.2.2.2.2.2.2.2.2)) ?_ fun j13 h13 => ?_
        · obtain ⟨c14, b14, e14, k14⟩ := once_ok k11 4
          simp only [e14, Option.bind_some]
          cases b14 with
          | false => exact ⟨_, rfl, k14, hk, hp, cellF_mk.2 ⟨fv.1, fu.2.1, fu.2.2.1, fv.2.2.2.1, fu.2.2.2.2.1, fu.2.2.2.2.2⟩⟩
          | true => exact ⟨_, rfl, k14, hk, hp, cellF_mk.2 ⟨fv.1, fu.2⟩⟩
        obtain ⟨k13, hk13, hp13, hc13⟩ := h13
        have fc13 := cellF_mk.1 hc13
        refine ex_join (P := fun (st : T13) => CurOk (GCur.mk st.1 st.2.1 st.2.2.1) ∧ I64 st.2.2.2.2.2.2.2.2.2.2.2.1 ∧ I64 st.2.2.2.2.2.2.2.2.2.2.2.2.1 ∧ CellF (GCell.mk st.2.2.2.2.2.2.2.2.2.2.2.2.2.2.2.2.2.2.2.1 st.2.2.2.2.2.2.2.2.2.2.2.2.2.2.2.2.2.2.2.2.1 st.2.2.2.2.2.2.2.2.2.2.2.2.2.2.2.2.2.2.2.2.2.1 st.2.2.2.2.2.2.2.2.2.2.2.2.2.2.2.2.2.2.2.2.2.2.1 st.2.2.2.2.2.2.2.2.2.2.2.2.2.2.2.2.2.2.2.2.2.2.2.1 st.2.2.2.2.2.2.2.2.2.2.2.2.2.2.2.2.2.2.2.2.2.2.2.2.1))
          (G := fun (z : Option (T9 ⊕ (GCur × GEdit))) => ∃ st : T9, z = some (Sum.inl st) ∧ CurOk (GCur.mk st.1 st.2.1 st.2.2.1) ∧ I64 st.2.2.2.2.2.2.2.2.2.2.2.1 ∧ I64 st.2.2.2.2.2.2.2.2.2.2.2.2.1 ∧ CellF (GCell.mk st.2.2.2.2.2.2.2.2.2.2.2.2.2.2.2.2.2.2.2.1 st.2.2.2.2.2.2.2.2.2.2.2.2.2.2.2.2.2.2.2.2.1 st.2.2.2.2.2.2.2.2.2.2.2.2.2.2.2.2.2.2.2.2.2.1 st.2.2.2.2.2.2.2.2.2.2.2.2.2.2.2.2.2.2.2.2.2.2.1 st.2.2.2.2.2.2.2.2.2.2.2.2.2.2.2.2.2.2.2.2.2.2.2.1 st.2.2.2.2.2.2.2.2.2.2.2.2.2.2.2.2.2.2.2.2.2.2.2.2)) ?_ fun j15 h15 => ?_
        · cases (j13.2.2.2.2.2.2.2.2.2.2.2.2.2.2.2.2.2.2.2.2.2.2.2.2.2.2.2.1 == 4) with
          | false => exact ⟨_, rfl, k13, hk13, hp13, hc13⟩
          | true =>
            obtain ⟨c16, b16, e16, k16⟩ := once_ok k13 6
            simp only [cond_true, e16, Option.bind_some]
            cases b16 with
            | true => exact ⟨_, rfl, k16, hk13, hp13, hc13⟩
            | false =>
              obtain ⟨c17, s, e17, k17, ls⟩ := data_dr k16
              simp only [Bool.not_false, cond_true, e17, Option.bind_some]
              have os : FitD B20 (.str s) := strB (by have : s.length ≤ 600 := ls; omega)
              exact ⟨_, rfl, k17, hk13, hp13, cellF_mk.2 ⟨fc13.1, fc13.2.1, fc13.2.2.1, fc13.2.2.2.1, os, fc13.2.2.2.2.2⟩⟩
        obtain ⟨k15, hk15, hp15, hc15⟩ := h15
        cases (j15.2.2.2.2.2.2.2.2.2.2.2.2.2.2.2.2.2.2.2.2.2.2.2.2.2.2.2.1 == 3) with
        | false => exact ⟨_, rfl, k15, hk15, hp15, hc15⟩
        | true =>
          obtain ⟨c18, b18, e18, k18⟩ := once_ok k15 2
          simp only [cond_true, e18, Option.bind_some]
          cases b18 with
          | false => exact ⟨_, rfl, k18, hk15, hp15, hc15⟩
          | true =>
            have o5 : I64 5 := i64 (by omega) (by omega)
            exact ⟨_, rfl, k18, o5, hp15, hc15⟩
  obtain ⟨k9, hk9, hp9, hc9⟩ := hj9
  have hc9' := cellF_mk.1 hc9
  refine Dr.join (P := fun st => CurOk (GCur.mk st.1 st.2.1 st.2.2.1) ∧ I64 st.2.2.2.2.2.2.2.2.2.2.2.1 ∧ I64 st.2.2.2.2.2.2.2.2.2.2.2.2.1 ∧ CellF (GCell.mk st.2.2.2.2.2.2.2.2.2.2.2.2.2.1 st.2.2.2.2.2.2.2.2.2.2.2.2.2.2.1 st.2.2.2.2.2.2.2.2.2.2.2.2.2.2.2.1 st.2.2.2.2.2.2.2.2.2.2.2.2.2.2.2.2.1 st.2.2.2.2.2.2.2.2.2.2.2.2.2.2.2.2.2.1 st.2.2.2.2.2.2.2.2.2.2.2.2.2.2.2.2.2.2)) ?_ fun j19 hj19 => ?_
  · cases (j9.2.2.2.2.2.2.2.2.2.2.2.1 == 5) with
    | false => exact ⟨_, rfl, k9, hk9, hp9, hc9⟩
    | true =>
      obtain ⟨c20, n, e20, k20, p20, q20⟩ := below_ok k9 10
      have := q20 (by omega)
      simp only [cond_true, e20, Option.bind_some]
      have on : I64 n := i64 (by omega) (by omega)
      exact ⟨_, rfl, k20, hk9, hp9, cellF_mk.2 ⟨hc9'.1, hc9'.2.1, hc9'.2.2.1, hc9'.2.2.2.1, hc9'.2.2.2.2.1, on⟩⟩
  obtain ⟨k19, hk19, hp19, hc19⟩ := hj19
  refine Dr.bind (once_dr k19 20) fun c21 b21 k21 _ => Dr.bif (fun _ => ?_) fun _ => .ret k21 (editF hk19 hp19 hc19)
  refine Dr.bind (below_dr k21 9) fun c22 w k22 p22 => .ret k22 (editF (i64 ?_ ?_) hp19 hc19) <;> (have := p22.2 (by omega); have := p22.1; omega)
theorem edits20_dr {c : GCur} (h : CurOk c) (nb : GNotebook) (hb : NbD 9 nb) (b : Int) (h0 : 0 ≤ b) (h1 : b ≤ 8) : Dr (sL20Edits c nb b) fun l => l.length ≤ 8 ∧ ∀ e, e ∈ l → FitE e := by
  unfold sL20Edits
  have hw : w64 (b + 1) = b + 1 := w64_id (by omega) (by omega)
  rw [hw]
  refine Dr.bind (below_dr h (b + 1)) fun c1 n k1 p1 => ?_
  have hn := p1.2 (by omega)
  obtain ⟨m, rfl⟩ := nat_of p1.1
  refine Dr.of (count_ex (fun (z : GCur × List GCell × List GEdit) (i : Nat) => ((z.1.b, z.1.i, z.1.h, z.2.1, z.2.2, (m : Int), (i : Int)) : (List Int) × Int × Int × (List GCell) × (List GEdit) × Int × Int)) m
    (fun i z => CurOk z.1 ∧ z.2.1.length ≤ 9 + i ∧ (∀ y, y ∈ z.2.1 → CellF y) ∧ z.2.2.length = i ∧ ∀ e, e ∈ z.2.2 → FitE e) (fun (r : GCur × List GEdit) => CurOk r.1 ∧ r.2.length ≤ 8 ∧ ∀ e, e ∈ r.2 → FitE e) (fun i z hi hz => ?_) (fun z hz => ?_) (c1, nb.cells, []) ⟨k1, by have := hb.len; simpa using this, hb.fit, rfl, fun y hy => (by cases hy)⟩)
  · obtain ⟨hc, hl, hy, hel, he⟩ := hz
    have hnb : NbD 1000 (GNotebook.mk z.2.1) := ⟨by show z.2.1.length ≤ _; omega, hy⟩
    have hnf : FitNb z.2.1 := hnb.nb (by omega)
    obtain ⟨c3, e, e3, k3, p3⟩ := draw20_dr hc (GNotebook.mk z.2.1) hnb
    have hf := apE_fit hnf p3
    simp only [cnt_lt hi, cond_true, e3, Option.bind_some, gd_ok (show z.2.2.length + [e].length ≤ 34359738368 by simp; omega), sApplyEdit_ok (GNotebook.mk z.2.1) e hnf p3, cnt_w hi (show m ≤ 1048576 by omega)]
    refine ⟨(c3, (apE z.2.1 e).1, z.2.2 ++ [e]), rfl, k3, ?_, ?_, by simp [hel], fun x hx => ?_⟩
    · have := apE_len z.2.1 e
      show (apE z.2.1 e).1.length ≤ 9 + (i + 1)
      omega
    · rw [fit_notebook] at hf
      exact hf.list_mem
    · rcases List.mem_append.1 hx with hx | hx
      · exact he x hx
      · rw [List.mem_singleton.1 hx]; exact p3
  · obtain ⟨hc, hl, hy, hel, he⟩ := hz
    exact ⟨(z.1, z.2.2), by simp only [nlt_self, cond_false], hc, by show z.2.2.length ≤ 8; omega, he⟩
theorem good_ok {cells : List GCell} {l : List GEdit} (hc : FitNb cells) (hl : l.length ≤ 8) (he : ∀ e, e ∈ l → FitE e) {res : GNotebook} : ∃ l', loopD (fun (x7 : (List GCell) × (List GCell) × (List GEdit) × (List GEdit) × (List GCell) × Int) =>
        bif (decide (x7.2.2.2.2.2 < (x7.2.2.1.length : Int))) then
          (idx x7.2.2.1 x7.2.2.2.2.2).bind fun _ =>
          (x7.2.2.1[x7.2.2.2.2.2.toNat]?).bind fun e9 =>
          (sApplyEdit (GNotebook.mk x7.2.2.2.2.1) e9).bind fun r10 =>
          bif (r10.2 == 0) then
            (idx x7.2.2.1 x7.2.2.2.2.2).bind fun _ =>
            (x7.2.2.1[x7.2.2.2.2.2.toNat]?).bind fun e12 =>
            (gd (x7.2.2.2.1.length + [e12].length)).bind fun _ =>
            some (.inl (x7.1, x7.2.1, x7.2.2.1, x7.2.2.2.1 ++ [e12], r10.1.cells, w64 (x7.2.2.2.2.2 + 1)))
          else
            some (.inl (x7.1, x7.2.1, x7.2.2.1, x7.2.2.2.1, x7.2.2.2.2.1, w64 (x7.2.2.2.2.2 + 1)))
        else
          some ((.inr (GNotebook.mk x7.2.1, x7.2.2.2.1)) : ((List GCell) × (List GCell) × (List GEdit) × (List GEdit) × (List GCell) × Int) ⊕ (GNotebook × (List GEdit)))
      ) ([], cells, l, [], cells, 0) = some (GNotebook.mk cells, l') ∧ l'.length ≤ 8 ∧ ∀ e, e ∈ l' → FitE e := by
  have hll : l.length < 4611686018427387904 := by omega
  obtain ⟨r, e, h1, h2, h3⟩ : ∃ r : GNotebook × List GEdit, _ = some r ∧ r.1 = GNotebook.mk cells ∧ r.2.length ≤ 8 ∧ ∀ e, e ∈ r.2 → FitE e :=
    list_ex (fun (z : List GEdit × List GCell) (i : Nat) => (([], cells, l, z.1, z.2, (i : Int)) : (List GCell) × (List GCell) × (List GEdit) × (List GEdit) × (List GCell) × Int)) l
    (fun i z => z.1.length ≤ i ∧ (∀ e, e ∈ z.1 → FitE e) ∧ FitNb z.2) (fun (r : GNotebook × List GEdit) => r.1 = GNotebook.mk cells ∧ r.2.length ≤ 8 ∧ ∀ e, e ∈ r.2 → FitE e)
    (g := fun (x7 : (List GCell) × (List GCell) × (List GEdit) × (List GEdit) × (List GCell) × Int) =>
        bif (decide (x7.2.2.2.2.2 < (x7.2.2.1.length : Int))) then
          (idx x7.2.2.1 x7.2.2.2.2.2).bind fun _ =>
          (x7.2.2.1[x7.2.2.2.2.2.toNat]?).bind fun e9 =>
          (sApplyEdit (GNotebook.mk x7.2.2.2.2.1) e9).bind fun r10 =>
          bif (r10.2 == 0) then
            (idx x7.2.2.1 x7.2.2.2.2.2).bind fun _ =>
            (x7.2.2.1[x7.2.2.2.2.2.toNat]?).bind fun e12 =>
            (gd (x7.2.2.2.1.length + [e12].length)).bind fun _ =>
            some (.inl (x7.1, x7.2.1, x7.2.2.1, x7.2.2.2.1 ++ [e12], r10.1.cells, w64 (x7.2.2.2.2.2 + 1)))
          else
            some (.inl (x7.1, x7.2.1, x7.2.2.1, x7.2.2.2.1, x7.2.2.2.2.1, w64 (x7.2.2.2.2.2 + 1)))
        else
          some ((.inr (GNotebook.mk x7.2.1, x7.2.2.2.1)) : ((List GCell) × (List GCell) × (List GEdit) × (List GEdit) × (List GCell) × Int) ⊕ (GNotebook × (List GEdit))))
    (fun i x z hx hz => .inl (by
      obtain ⟨z1, z2, z3⟩ := hz
      have hi := (List.getElem?_eq_some_iff.1 hx).1
      have hxe := he x (List.mem_of_getElem? hx)
      simp only [dec_lt hx, cond_true, idx_nat, Int.toNat_natCast, hx, Option.bind_some, sApplyEdit_ok (GNotebook.mk z.2) x z3 hxe, gd_ok (show z.1.length + [x].length ≤ 34359738368 by simp; omega), w_succ hx hll]
      cases ((apE z.2 x).2 == 0) with
      | true => exact ⟨(z.1 ++ [x], (apE z.2 x).1), rfl, by simp; omega, fun y hy => by
          rcases List.mem_append.1 hy with hy | hy
          · exact z2 y hy
          · rw [List.mem_singleton.1 hy]; exact hxe, apE_fit z3 hxe⟩
      | false => exact ⟨z, rfl, by omega, z2, z3⟩))
    (fun z hz => by
      obtain ⟨z1, z2, z3⟩ := hz
      exact ⟨(GNotebook.mk cells, z.1), by simp only [nlt_self, cond_false], rfl, by show z.1.length ≤ 8; omega, z2⟩) ([], cells) ⟨Nat.le_refl _, fun e h => (by cases h), hc⟩
  obtain ⟨r1, r2⟩ := r
  have h1 : r1 = GNotebook.mk cells := h1
  subst h1
  exact ⟨r2, e, h2, h3⟩
theorem args39_ok (a : List Int) (ha : (a.length : Int) ≤ 1048576) : ∃ nb l, sL39Args a = some (nb, l) ∧ Fit B20 (.base .notebook) nb ∧ nb.cells.length ≤ 9 ∧ l.length ≤ 8 ∧ ∀ e, e ∈ l → FitE e := by
  obtain ⟨c0, e0, k0⟩ := new_ok a ha
  obtain ⟨c1, nb, e1, k1, p1, _⟩ := draw17_dr k0 6 (by omega) (by omega)
  have p1 : NbD 9 nb := ⟨by have := p1.len; have : (6 : Int).toNat = 6 := rfl; omega, p1.fit⟩
  obtain ⟨c2, b2, e2, k2⟩ := once_ok k1 20
  unfold sL39Args
  simp only [e0, e1, e2, Option.bind_some]
  cases b2 with
  | true =>
    obtain ⟨c3, nb3, e3, k3, p3⟩ := bent17_dr k2
    obtain ⟨c4, l, e4, k4, q1, q2⟩ := edits20_dr k3 nb3 p3 4 (by omega) (by omega)
    obtain ⟨c5, b5, e5, k5⟩ := once_ok k4 3
    simp only [cond_true, e3, e4, e5, Option.bind_some]
    cases b5 with
    | true => exact ⟨nb3, l, rfl, p3.nb (by omega), p3.len, q1, q2⟩
    | false =>
      obtain ⟨l', e6, r1, r2⟩ := good_ok (cells := nb3.cells) (p3.nb (by omega)) q1 q2 (res := nb3)
      exact ⟨nb3, l', by simp only [Bool.not_false, cond_true]; exact e6, p3.nb (by omega), p3.len, r1, r2⟩
  | false =>
    obtain ⟨c4, l, e4, k4, q1, q2⟩ := edits20_dr k2 nb p1 4 (by omega) (by omega)
    obtain ⟨c5, b5, e5, k5⟩ := once_ok k4 3
    simp only [cond_false, e4, e5, Option.bind_some]
    cases b5 with
    | true => exact ⟨nb, l, rfl, p1.nb (by omega), p1.len, q1, q2⟩
    | false =>
      obtain ⟨l', e6, r1, r2⟩ := good_ok (cells := nb.cells) (p1.nb (by omega)) q1 q2 (res := nb)
      exact ⟨nb, l', by simp only [Bool.not_false, cond_true]; exact e6, p1.nb (by omega), p1.len, r1, r2⟩
end Go.Proofs.Ytmadjfnpidahnaa
