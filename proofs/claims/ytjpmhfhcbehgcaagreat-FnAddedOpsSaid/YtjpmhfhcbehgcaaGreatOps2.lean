/- Plain laws: drawn operations and logs; FnOps. -/
import Derived.Test.YtjpmhfhcbehgcaaGreatBat3
set_option linter.unusedSimpArgs false
set_option linter.unusedVariables false
namespace Go.Proofs.YtjpmhfhcbehgcaaGreat
open Go.Abs Go.Proofs

theorem foldMax (a : List GOp) : ∀ s : Int, s ≤ a.foldl (fun s x => if x.time > s then x.time else s) s ∧ (∀ x, x ∈ a → x.time ≤ a.foldl (fun s x => if x.time > s then x.time else s) s) ∧
    ∀ T, s ≤ T → (∀ x, x ∈ a → x.time ≤ T) → a.foldl (fun s x => if x.time > s then x.time else s) s ≤ T := by
  induction a with
  | nil => exact fun s => ⟨Int.le_refl _, fun x hx => (by cases hx), fun T h _ => h⟩
  | cons y r ih =>
    intro s
    obtain ⟨h1, h2, h3⟩ := ih (if y.time > s then y.time else s)
    have hs : s ≤ (if y.time > s then y.time else s) ∧ y.time ≤ (if y.time > s then y.time else s) := by
      by_cases h : y.time > s
      · rw [if_pos h]; omega
      · rw [if_neg h]; omega
    rw [List.foldl_cons]
    refine ⟨by omega, fun x hx => ?_, fun T hT hx => h3 T ?_ fun x h => hx x (List.mem_cons_of_mem _ h)⟩
    · rcases List.mem_cons.1 hx with rfl | hx
      · omega
      · exact h2 x hx
    · have := hx y List.mem_cons_self
      by_cases h : y.time > s
      · rw [if_pos h]; omega
      · rw [if_neg h]; omega
theorem w64_fit (n : Int) : I64 (w64 n) := .int .i64 _ (by
  unfold Lit.wf w64
  simp [IntKind.wrap, IntKind.bits, IntKind.signed, IntKind.min, IntKind.max]
  omega)
abbrev OpF (o : GOp) : Prop := Fit B20 (.base .op) o
theorem opF_iff {o : GOp} : OpF o ↔ I64 o.time ∧ I64 o.by_ ∧ I64 o.kind ∧ FitD B20 (.list (.base .int) o.seen) ∧ FitE o.edit ∧ FitD B20 (.str o.src) ∧ FitD B20 (.str o.dst) ∧ I64 o.cell ∧ I64 o.version ∧ FitD B20 (.list (.base .read) o.reads) := by
  show Fit B20 (.base .op) _ ↔ _
  rw [fit_op]
theorem ints_fit {l : List Int} (hl : l.length ≤ 1000) (h : ∀ x, x ∈ l → I64 x) : FitD B20 (.list (.base .int) l) :=
  mkList20 (by omega) fun x hx d hd => by
    have : d = .int .i64 x := by simpa [Ty.cells, Base.cells] using hd
    rw [this]; exact h x hx
theorem ints_mem {l : List Int} (h : FitD B20 (.list (.base .int) l)) : ∀ x, x ∈ l → I64 x := fun x hx => h.list_mem x hx _ (by simp [Ty.cells, Base.cells])
/-- a drawn operation -/
structure OpD (T : Int) (o : GOp) : Prop where
  fit : OpF o
  t0 : 0 ≤ o.time
  t1 : o.time ≤ T
  seen : o.seen.length = 3
theorem names6 {n : Nat} (h : n < 6) : ∃ s, idx ([[], [97], [98], [99], [100], [101]] : List Str) ((n : Nat) : Int) = some s ∧ s.length ≤ 1 ∧ ([[], [97], [98], [99], [100], [101]] : List Str)[n]? = some s := by
  obtain ⟨s, e1, _, e2⟩ := idx_get (xs := ([[], [97], [98], [99], [100], [101]] : List Str)) (n := n) h
  refine ⟨s, e1, ?_, e2⟩
  have := List.mem_of_getElem? e2
  simp at this
  rcases this with rfl | rfl | rfl | rfl | rfl | rfl <;> simp
theorem edit41_dr {c : GCur} (h : CurOk c) : Dr (sL41Edit c) FitE := by
  unfold sL41Edit
  refine Dr.bind (pickInt_dr h _ (by simp)) fun c1 k k1 p1 => Dr.bind (below_dr k1 4) fun c2 q k2 p2 => Dr.bind (below_dr k2 5) fun c3 n k3 p3 => ?_
  have hk : 1 ≤ k ∧ k ≤ 6 := by
    simp at p1
    omega
  have hq := p2.2 (by omega)
  have hq0 := p2.1
  have hn := p3.2 (by omega)
  have hn0 := p3.1
  have w1 : w64 (1 + n) = 1 + n := w64_id (by omega) (by omega)
  show Dr ((sL17Cell c3 (w64 (1 + n))).bind _) FitE
  rw [w1]
  refine Dr.bind (cell_dr k3 (1 + n) (by omega) (by omega)) fun c4 x k4 px => ?_
  obtain ⟨s, e1, ls, e2⟩ := names6 (n := (1 + n).toNat) (by omega)
  have hid : x.id = ((1 + n).toNat : Nat) := by rw [px.id]; omega
  have fx := cellF_iff.1 px.fit
  have fs : FitD B20 (.str s) := strB (by omega)
  have ik : I64 k := i64 (by omega) (by omega)
  have iq : I64 q := i64 (by omega) (by omega)
  show Dr ((idx ([[], [97], [98], [99], [100], [101]] : List Str) x.id).bind _) FitE
  rw [hid, e1, Option.bind_some, Int.toNat_natCast, e2, Option.bind_some]
  refine Dr.bif (fun _ => ?_) fun _ => .ret k4 (editF ik iq (cellF_mk.2 ⟨by rw [← hid]; exact fx.1, fx.2.1, fx.2.2.1, fs, fx.2.2.2.2.1, fx.2.2.2.2.2⟩))
  have o2 : I64 2 := i64 (by omega) (by omega)
  refine Dr.bind (expr17_dr k4) fun c5 t k5 lt => ?_
  have ft : FitD B20 (.str t) := strB (by omega)
  exact .ret k5 (editF ik iq (cellF_mk.2 ⟨by rw [← hid]; exact fx.1, fx.2.1, o2, fs, ft, fx.2.2.2.2.2⟩))
theorem make41_dr {c : GCur} (h : CurOk c) (b : List GOp) (hl : b.length ≤ 1000) (T : Int) (h0 : 0 ≤ T) (hT : T ≤ 1000000) (hb : ∀ x, x ∈ b → x.time ≤ T) (by_ : Int) (hy0 : 0 ≤ by_) (hy : by_ ≤ 1000) : Dr (sL41Make c b by_) (OpD (T + 2)) := by
  unfold sL41Make
  have hll : b.length < lim := by show b.length < 4611686018427387904; omega
  have lt := sLastTime_val b hll
  obtain ⟨f1, f2, f3⟩ := foldMax b 0
  have f3 := f3 T h0 hb
  generalize b.foldl (fun s x => if x.time > s then x.time else s) 0 = v at *
  rw [lt, Option.bind_some]
  refine Dr.bind (below_dr h 2) fun c2 q k2 p2 => Dr.bind (edit41_dr k2) fun c3 e k3 fe => ?_
  have hq := p2.2 (by omega)
  have hq0 := p2.1
  have w1 : w64 (v + 1) = v + 1 := w64_id (by omega) (by omega)
  have w2 : w64 (v + 1 + q) = v + 1 + q := w64_id (by omega) (by omega)
  have it : I64 (v + 1 + q) := i64 (by omega) (by omega)
  have iy : I64 by_ := i64 (by omega) (by omega)
  simp only [w1, w2]
  have no : FitE (GEdit.mk 0 0 (GCell.mk 0 0 0 [] [] 0)) := editF (i64 (by omega) (by omega)) (i64 (by omega) (by omega)) (cellF_mk.2 ⟨i64 (by omega) (by omega), i64 (by omega) (by omega), i64 (by omega) (by omega), strB (by simp), strB (by simp), i64 (by omega) (by omega)⟩)
  have o0 : I64 0 := i64 (by omega) (by omega)
  have os : FitD B20 (.str []) := strB (by simp)
  have orr : FitD B20 (.list (.base .read) []) := nilL
  have ht0 : 0 ≤ v + 1 + q := by omega
  have ht1 : v + 1 + q ≤ T + 2 := by omega
  have o1 : I64 1 := i64 (by omega) (by omega)
  have o2 : I64 2 := i64 (by omega) (by omega)
  have o3 : I64 3 := i64 (by omega) (by omega)
  generalize v + 1 + q = t at *
  refine Dr.of (count_ex (fun (s : List Int) (i : Nat) => ((c3.b, c3.i, c3.h, b, 0, 0, 0, [], 0, 0, 0, 0, 0, [], [], 0, [], [], 0, 0, [], t, by_, 1, s, e.kind, e.pos, e.cell.id, e.cell.version, e.cell.kind, e.cell.name, e.cell.code, e.cell.n, [], [], 0, 0, [], (i : Int)) : (List Int) × Int × Int × (List GOp) × Int × Int × Int × (List Int) × Int × Int × Int × Int × Int × Str × Str × Int × Str × Str × Int × Int × (List GRead) × Int × Int × Int × (List Int) × Int × Int × Int × Int × Int × Str × Str × Int × Str × Str × Int × Int × (List GRead) × Int)) 3
    (fun i s => s.length = i ∧ ∀ x, x ∈ s → I64 x) (fun (r : GCur × GOp) => CurOk r.1 ∧ OpD (T + 2) r.2) (fun i s hi hs => ?_) (fun s hs => ?_) [] ⟨rfl, fun x hx => (by cases hx)⟩)
  · obtain ⟨hs1, hs2⟩ := hs
    obtain ⟨w, ew, hw⟩ := sCountBy_val b (i : Int) hll
    have hd : decide ((i : Int) < 3) = true := by simp; omega
    have hwi : w64 ((i : Int) + 1) = ((i + 1 : Nat) : Int) := by rw [w64_id (by omega) (by omega)]; omega
    refine ⟨s ++ [w], ?_, by simp [hs1], fun x hx => ?_⟩
    · simp only [hd, cond_true, ew, Option.bind_some, gd_ok (show s.length + [w].length ≤ 34359738368 by simp; omega), hwi]
    · rcases List.mem_append.1 hx with hx | hx
      · exact hs2 x hx
      · rw [List.mem_singleton.1 hx]
        rcases hw with rfl | ⟨n, rfl⟩
        · exact o0
        · exact w64_fit n
  · obtain ⟨hs1, hs2⟩ := hs
    have fs : FitD B20 (.list (.base .int) s) := ints_fit (by omega) hs2
    have hd : decide (((3 : Nat) : Int) < 3) = false := rfl
    simp only [hd, cond_false]
    have key : Dr ((sL1Below c3 8).bind fun r6 =>
      bif (r6.2 == 0) then
        (sL1Pick r6.1 ([[97], [98], [99]] : List Str)).bind fun r7 =>
        (sL1Pick r7.1 ([[120], [121], [116, 111, 116, 97, 108]] : List Str)).bind fun r8 =>
        some (r8.1, GOp.mk t by_ 2 s (GEdit.mk 0 0 (GCell.mk 0 0 0 [] [] 0)) r7.2 r8.2 0 0 [])
      else
      bif (r6.2 == 1) then
        (sL1Pick r6.1 ([[97], [98], [99]] : List Str)).bind fun r9 =>
        (sL1Pick r9.1 ([[120], [121], [116, 111, 116, 97, 108]] : List Str)).bind fun r10 =>
        some (r10.1, GOp.mk t by_ 2 s (GEdit.mk 0 0 (GCell.mk 0 0 0 [] [] 0)) r9.2 r10.2 0 0 [])
      else
        bif (r6.2 == 2) then
          (sL1Below r6.1 5).bind fun r11 =>
          (sL1Below r11.1 20).bind fun r12 =>
          (sL16Tape r12.1).bind fun r13 =>
          some (r13.1, GOp.mk t by_ 3 s (GEdit.mk 0 0 (GCell.mk 0 0 0 [] [] 0)) [] [] (w64 (1 + r11.2)) (w64 (3 + r12.2)) r13.2)
        else
          some (r6.1, GOp.mk t by_ 1 s (GEdit.mk e.kind e.pos (GCell.mk e.cell.id e.cell.version e.cell.kind e.cell.name e.cell.code e.cell.n)) [] [] 0 0 [])) (OpD (T + 2)) := by
      have ren : ∀ c6, CurOk c6 → Dr ((sL1Pick c6 ([[97], [98], [99]] : List Str)).bind fun r7 =>
          (sL1Pick r7.1 ([[120], [121], [116, 111, 116, 97, 108]] : List Str)).bind fun r8 =>
          some (r8.1, GOp.mk t by_ 2 s (GEdit.mk 0 0 (GCell.mk 0 0 0 [] [] 0)) r7.2 r8.2 0 0 [])) (OpD (T + 2)) := fun c6 k6 => by
        refine Dr.bind (pick_dr k6 _ (by simp)) fun c7 a k7 p7 => Dr.bind (pick_dr k7 _ (by simp)) fun c8 d k8 p8 => .ret k8 ⟨opF_iff.2 ⟨it, iy, o2, fs, no, strB ?_, strB ?_, o0, o0, orr⟩, ht0, ht1, hs1⟩
        · simp at p7
          rcases p7 with rfl | rfl | rfl <;> simp
        · simp at p8
          rcases p8 with rfl | rfl | rfl <;> simp
      refine Dr.bind (below_dr k3 8) fun c6 n k6 _ => Dr.bif (fun _ => ren c6 k6) fun _ => Dr.bif (fun _ => ren c6 k6) fun _ => Dr.bif (fun _ => ?_) fun _ => ?_
      · refine Dr.bind (below_dr k6 5) fun c7 x k7 p7 => Dr.bind (below_dr k7 20) fun c8 y k8 p8 => ?_
        obtain ⟨c9, l, e9, k9, fl, _⟩ := tape16_ok k8
        refine Dr.bind (P := fun l => FitD B20 (.list (.base .read) l)) ⟨c9, l, e9, k9, fl⟩ fun c9 l k9 fl => .ret k9 ⟨opF_iff.2 ⟨it, iy, o3, fs, no, os, os, w64_fit _, w64_fit _, fl⟩, ht0, ht1, hs1⟩
      · exact .ret k6 ⟨opF_iff.2 ⟨it, iy, o1, fs, fe, os, os, o0, o0, orr⟩, ht0, ht1, hs1⟩
    obtain ⟨c9, o, e9, k9, po⟩ := key
    refine ⟨(c9, o), ?_, k9, po⟩
    rw [e9]; rfl
theorem ex1 {ρ : Type} {z : Option ρ} (h : ∃ r, z = some r ∧ True) : ∃ r, z = some r := by
  obtain ⟨r, e, _⟩ := h
  exact ⟨r, e⟩
theorem place_ok (a : List GOp) (b : GOp) (h : a.length < lim) : ∃ r, sL42Place a b = some r := by
  unfold sL42Place
  refine ex1 (list_ex (fun (_ : Unit) (i : Nat) => ((a, b.time, b.by_, b.kind, b.seen, b.edit.kind, b.edit.pos, b.edit.cell.id, b.edit.cell.version, b.edit.cell.kind, b.edit.cell.name, b.edit.cell.code, b.edit.cell.n, b.src, b.dst, b.cell, b.version, b.reads, (i : Int)) : (List GOp) × Int × Int × Int × (List Int) × Int × Int × Int × Int × Int × Str × Str × Int × Str × Str × Int × Int × (List GRead) × Int)) a (fun _ _ => True) (fun _ => True) (fun i x s hx hI => ?_) (fun s hI => ?_) () trivial)
  · simp only [dec_lt hx, cond_true, idx_nat, hx, Option.bind_some, w_succ hx h]
    cases (x.time == b.time) with
    | false => exact .inl ⟨(), rfl, trivial⟩
    | true => cases (x.by_ == b.by_) with
      | false => exact .inl ⟨(), rfl, trivial⟩
      | true => exact .inr ⟨_, rfl, trivial⟩
  · exact ⟨_, by simp only [nlt_self, cond_false]; rfl, trivial⟩
theorem mergeOps_ok (a b : List GOp) (ha : a.length ≤ 100) (hb : b.length ≤ 100) (P : GOp → Prop) (hP : ∀ x, P x → OpF x) (pa : ∀ x, x ∈ a → P x) (pb : ∀ x, x ∈ b → P x) :
    ∃ w, sMergeOps a b = some w ∧ w.length ≤ a.length + b.length ∧ ∀ x, x ∈ w → P x := by
  unfold sMergeOps
  rw [gd_ok (by omega), Option.bind_some, gd_ok (by simp; omega), Option.bind_some, List.nil_append]
  have hall : (a ++ b).length ≤ 200 := by rw [List.length_append]; omega
  have pall : ∀ x, x ∈ a ++ b → P x := fun x hx => by
    rcases List.mem_append.1 hx with hx | hx
    · exact pa x hx
    · exact pb x hx
  rw [← List.length_append]
  generalize a ++ b = all at *
  have hal : all.length < lim := by show all.length < 4611686018427387904; omega
  refine list_ex (fun (s : List GOp) (i : Nat) => ((s, all, (i : Int)) : (List GOp) × (List GOp) × Int)) all (fun i s => s.length ≤ i ∧ ∀ x, x ∈ s → P x) (fun (w : List GOp) => w.length ≤ all.length ∧ ∀ x, x ∈ w → P x) (fun i y s hy hI => .inl ?_) (fun s hI => ?_) [] ⟨Nat.le_refl _, fun x hx => (by cases hx)⟩
  · obtain ⟨hs, ps⟩ := hI
    have hi := (List.getElem?_eq_some_iff.1 hy).1
    have py := pall y (List.mem_of_getElem? hy)
    obtain ⟨r, er⟩ := place_ok s y (by show s.length < 4611686018427387904; omega)
    simp only [dec_lt hy, cond_true, idx_nat, hy, Int.toNat_natCast, Option.bind_some, er, w_succ hy hal]
    cases decide (r ≥ 0) with
    | true => exact ⟨s, rfl, by omega, ps⟩
    | false =>
      have put : ∀ j : Nat, j ≤ s.length → ((cutAt s (j : Int)).bind fun m11 =>
            ((if (j : Int) = (m11 : Int) then some () else none)).bind fun _ =>
            (gd (0 + (s.take m11).length)).bind fun _ =>
            (idx all (i : Int)).bind fun _ =>
            (all[(i : Int).toNat]?).bind fun e13 =>
            (sL41Copy e13).bind fun r14 =>
            (gd (([] ++ (s.take m11)).length + [r14].length)).bind fun _ =>
            ((if (j : Int) = (m11 : Int) then some () else none)).bind fun _ =>
            (gd ((([] ++ (s.take m11)) ++ [r14]).length + (s.drop m11).length)).bind fun _ =>
            some ((.inl ((([] ++ (s.take m11)) ++ [r14]) ++ (s.drop m11), all, ((i + 1 : Nat) : Int))) : ((List GOp) × (List GOp) × Int) ⊕ (List GOp))) = some (.inl (s.take j ++ [y] ++ s.drop j, all, ((i + 1 : Nat) : Int))) := fun j hj => by
        simp only [cutAt_le s j hj, eq_self_iff_true, if_true, Option.bind_some, idx_nat, hy, Int.toNat_natCast, sL41Copy_ok y (hP y py)]
        rw [gd_ok (by simp; omega), Option.bind_some, gd_ok (by simp; omega), Option.bind_some, gd_ok (by simp; omega), Option.bind_some]
        rfl
      have good : ∀ j : Nat, j ≤ s.length → ∃ s', (s.take j ++ [y] ++ s.drop j) = s' ∧ s'.length ≤ i + 1 ∧ ∀ x, x ∈ s' → P x := fun j hj => ⟨_, rfl, by simp; omega, fun x hx => by
        simp only [List.mem_append, List.mem_singleton] at hx
        rcases hx with (hx | rfl) | hx
        · exact ps x (List.mem_of_mem_take hx)
        · exact py
        · exact ps x (List.mem_of_mem_drop hx)⟩
      simp only [cond_false]
      have inner : ∃ r, loopD (fun (x5 : (List GOp) × (List GOp) × Int × Int) =>
        bif (decide (x5.2.2.2 < (x5.1.length : Int))) then
          (idx x5.1 x5.2.2.2).bind fun _ =>
          (x5.1[x5.2.2.2.toNat]?).bind fun e7 =>
          (idx x5.2.1 x5.2.2.1).bind fun _ =>
          (x5.2.1[x5.2.2.1.toNat]?).bind fun e9 =>
          (sOpBefore e7 e9).bind fun r10 =>
          bif r10 then
            some (.inl (x5.1, x5.2.1, x5.2.2.1, w64 (x5.2.2.2 + 1)))
          else
          (
            (cutAt x5.1 x5.2.2.2).bind fun m11 =>
            ((if x5.2.2.2 = (m11 : Int) then some () else none)).bind fun _ =>
            (gd (0 + (x5.1.take m11).length)).bind fun _ =>
            (idx x5.2.1 x5.2.2.1).bind fun _ =>
            (x5.2.1[x5.2.2.1.toNat]?).bind fun e13 =>
            (sL41Copy e13).bind fun r14 =>
            (gd (([] ++ (x5.1.take m11)).length + [r14].length)).bind fun _ =>
            ((if x5.2.2.2 = (m11 : Int) then some () else none)).bind fun _ =>
            (gd ((([] ++ (x5.1.take m11)) ++ [r14]).length + (x5.1.drop m11).length)).bind fun _ =>
            some ((.inl ((([] ++ (x5.1.take m11)) ++ [r14]) ++ (x5.1.drop m11), x5.2.1, w64 (x5.2.2.1 + 1))) : ((List GOp) × (List GOp) × Int) ⊕ (List GOp))
          ).bind fun r => some (.inr r)
        else
        (
          (cutAt x5.1 x5.2.2.2).bind fun m16 =>
          ((if x5.2.2.2 = (m16 : Int) then some () else none)).bind fun _ =>
          (gd (0 + (x5.1.take m16).length)).bind fun _ =>
          (idx x5.2.1 x5.2.2.1).bind fun _ =>
          (x5.2.1[x5.2.2.1.toNat]?).bind fun e18 =>
          (sL41Copy e18).bind fun r19 =>
          (gd (([] ++ (x5.1.take m16)).length + [r19].length)).bind fun _ =>
          ((if x5.2.2.2 = (m16 : Int) then some () else none)).bind fun _ =>
          (gd ((([] ++ (x5.1.take m16)) ++ [r19]).length + (x5.1.drop m16).length)).bind fun _ =>
          some (.inl ((([] ++ (x5.1.take m16)) ++ [r19]) ++ (x5.1.drop m16), x5.2.1, w64 (x5.2.2.1 + 1)))
        ).bind fun r => some (.inr r)
      ) (s, all, (i : Int), 0) = some r ∧ ∃ s', r = .inl (s', all, ((i + 1 : Nat) : Int)) ∧ s'.length ≤ i + 1 ∧ ∀ x, x ∈ s' → P x := by
        refine list_ex (fun (_ : Unit) (j : Nat) => ((s, all, (i : Int), (j : Int)) : (List GOp) × (List GOp) × Int × Int)) s (fun _ _ => True)
          (fun (r : ((List GOp) × (List GOp) × Int) ⊕ (List GOp)) => ∃ s' : List GOp, r = .inl (s', all, ((i + 1 : Nat) : Int)) ∧ s'.length ≤ i + 1 ∧ ∀ x, x ∈ s' → P x) (fun j x _ hx _ => ?_) (fun _ _ => ?_) () trivial
        · have hj := (List.getElem?_eq_some_iff.1 hx).1
          obtain ⟨s', e', g1, g2⟩ := good j (by omega)
          have pj := put j (by omega)
          simp only [dec_lt hx, cond_true, sOpBefore_ok, w_succ hx (show s.length < 4611686018427387904 by omega), w_succ hy hal]
          rw [pj]
          simp only [idx_nat, hx, hy, Int.toNat_natCast, Option.bind_some]
          cases (decide (x.time < y.time) || ((x.time == y.time) && decide (x.by_ < y.by_))) with
          | true => exact .inl ⟨(), rfl, trivial⟩
          | false => exact .inr ⟨_, rfl, s', by rw [e'], g1, g2⟩
        · obtain ⟨s', e', g1, g2⟩ := good s.length (Nat.le_refl _)
          have pj := put s.length (Nat.le_refl _)
          simp only [nlt_self, cond_false, w_succ hy hal]
          rw [pj]
          exact ⟨_, rfl, s', by rw [e'], g1, g2⟩
      obtain ⟨r, e, s', rfl, g1, g2⟩ := inner
      exact ⟨s', e, g1, g2⟩
  · exact ⟨s, by simp only [nlt_self, cond_false], hI⟩
theorem OpD.mono {T T' : Int} {o : GOp} (h : OpD T o) (hT : T ≤ T') : OpD T' o := ⟨h.fit, h.t0, by have := h.t1; omega, h.seen⟩
theorem log41_dr {c : GCur} (h : CurOk c) (b : Int) (h0 : 0 ≤ b) (h1 : b ≤ 20) : Dr (sL41Log c b) fun l => l.length ≤ b.toNat ∧ ∀ o, o ∈ l → OpD 100 o := by
  unfold sL41Log
  have hw : w64 (b + 1) = b + 1 := w64_id (by omega) (by omega)
  rw [hw]
  refine Dr.bind (below_dr h (b + 1)) fun c1 n k1 p1 => ?_
  have hn := p1.2 (by omega)
  obtain ⟨m, rfl⟩ := nat_of p1.1
  refine Dr.of (count_ex (fun (z : GCur × List GOp) (i : Nat) => ((z.1.b, z.1.i, z.1.h, z.2, (m : Int), (i : Int)) : (List Int) × Int × Int × (List GOp) × Int × Int)) m
    (fun i z => CurOk z.1 ∧ z.2.length ≤ i ∧ ∀ o, o ∈ z.2 → OpD (2 * (i : Int)) o) (fun (r : GCur × List GOp) => CurOk r.1 ∧ r.2.length ≤ b.toNat ∧ ∀ o, o ∈ r.2 → OpD 100 o) (fun i z hi hz => ?_) (fun z hz => ?_) (c1, []) ⟨k1, Nat.le_refl _, fun o ho => (by cases ho)⟩)
  · obtain ⟨hc, hl, ho⟩ := hz
    obtain ⟨c2, b2, e2, k2⟩ := once_ok hc 2
    have wl : w64 ((z.2.length : Int) + 1) = ((z.2.length + 1 : Nat) : Int) := w64_nat (by omega)
    have fin : ∀ (c6 : GCur) (known : List GOp) (by_ : Int), CurOk c6 → known.length ≤ 1000 → (∀ x, x ∈ known → x ∈ z.2) → 0 ≤ by_ → by_ < 3 → ∃ (c7 : GCur) (o : GOp) (w : List GOp), sL41Make c6 known by_ = some (c7, o) ∧ sMergeOps z.2 [o] = some w ∧ CurOk c7 ∧ w.length ≤ i + 1 ∧ ∀ o, o ∈ w → OpD (2 * ((i + 1 : Nat) : Int)) o := by
      intro c6 known by_ k6 hk hm hb0 hb3
      obtain ⟨c7, o, e7, k7, po⟩ := make41_dr k6 known hk (2 * (i : Int)) (by omega) (by omega) (fun x hx => (ho x (hm x hx)).t1) by_ hb0 (by omega)
      have po' : OpD (2 * ((i + 1 : Nat) : Int)) o := po.mono (by omega)
      obtain ⟨w, e8, hw1, hw2⟩ := mergeOps_ok z.2 [o] (by omega) (by simp) (OpD (2 * ((i + 1 : Nat) : Int))) (fun x hx => hx.fit) (fun x hx => (ho x hx).mono (by omega)) (fun x hx => by rw [List.mem_singleton.1 hx]; exact po')
      exact ⟨c7, o, w, e7, e8, k7, by simp only [List.length_cons, List.length_nil] at hw1; omega, hw2⟩
    simp only [cnt_lt hi, cond_true, e2, Option.bind_some, wl]
    cases b2 with
    | true =>
      obtain ⟨c4, q, e4, k4, p4, q4⟩ := below_ok k2 ((z.2.length + 1 : Nat) : Int)
      have := q4 (by omega)
      obtain ⟨q, rfl⟩ := nat_of p4
      obtain ⟨c6, y, e6, k6, p6, q6⟩ := below_ok k4 3
      have := q6 (by omega)
      obtain ⟨c7, o, w, e7, e8, k7, l7, f7⟩ := fin c6 (z.2.take q) y k6 (by rw [List.length_take]; omega) (fun x hx => List.mem_of_mem_take hx) p6 this
      simp only [cond_true, e4, Option.bind_some, cutL_to z.2 q (by omega), e6, e7, e8, cnt_w hi (show m ≤ 1048576 by omega)]
      exact ⟨(c7, w), rfl, k7, l7, f7⟩
    | false =>
      obtain ⟨c6, y, e6, k6, p6, q6⟩ := below_ok k2 3
      have := q6 (by omega)
      obtain ⟨c7, o, w, e7, e8, k7, l7, f7⟩ := fin c6 z.2 y k6 (by omega) (fun x hx => hx) p6 this
      simp only [cond_false, Option.bind_some, e6, e7, e8, cnt_w hi (show m ≤ 1048576 by omega)]
      exact ⟨(c7, w), rfl, k7, l7, f7⟩
  · obtain ⟨hc, hl, ho⟩ := hz
    exact ⟨(z.1, z.2), by simp only [nlt_self, cond_false], hc, by show z.2.length ≤ _; omega, fun o h => (ho o h).mono (by omega)⟩
theorem bent41_dr {c : GCur} (h : CurOk c) : Dr (sL41Bent c) OpF := by
  unfold sL41Bent
  refine Dr.bind (log41_dr h 3 (by omega) (by omega)) fun c1 l k1 p1 => Dr.bind (below_dr k1 3) fun c2 y k2 p2 => ?_
  have hl : l.length ≤ 3 := p1.1
  have hy := p2.2 (by omega)
  refine Dr.bind (make41_dr k2 l (by omega) 100 (by omega) (by omega) (fun x hx => (p1.2 x hx).t1) y p2.1 (by show y ≤ 1000; omega)) fun c3 o k3 po => Dr.bind (below_dr k3 10) fun c4 q k4 p4 => ?_
  obtain ⟨f1, f2, f3, f4, f5, f6, f7, f8, f9, f10⟩ := opF_iff.1 po.fit
  refine Dr.bif (fun _ => ?_) fun _ => Dr.bif (fun _ => ?_) fun _ => Dr.bif (fun _ => ?_) fun _ => Dr.bif (fun _ => ?_) fun _ => Dr.bif (fun _ => ?_) fun _ => Dr.bif (fun _ => ?_) fun _ => .ret k4 po.fit
  · refine Dr.bind (pickInt_dr k4 _ (by simp)) fun c5 n k5 p5 => ?_
    have on : I64 n := by
      simp at p5
      exact i64 (by omega) (by omega)
    exact .ret k5 (opF_iff.2 ⟨on, f2, f3, f4, f5, f6, f7, f8, f9, f10⟩)
  · refine Dr.bind (pickInt_dr k4 _ (by simp)) fun c5 n k5 p5 => ?_
    have on : I64 n := by
      simp at p5
      exact i64 (by omega) (by omega)
    exact .ret k5 (opF_iff.2 ⟨f1, on, f3, f4, f5, f6, f7, f8, f9, f10⟩)
  · refine Dr.gd (by show o.seen.length + 1 ≤ _; rw [po.seen]; omega) (.ret k4 (opF_iff.2 ⟨f1, f2, f3, ints_fit (by show (o.seen ++ [0]).length ≤ _; rw [List.length_append, po.seen]; decide) fun x hx => ?_, f5, f6, f7, f8, f9, f10⟩))
    rcases List.mem_append.1 hx with hx | hx
    · exact ints_mem f4 x hx
    · rw [List.mem_singleton.1 hx]; exact i64 (by omega) (by omega)
  · refine Dr.bind (below_dr k4 5) fun c5 n k5 p5 => ?_
    have on : I64 n := i64 (by have := p5.1; omega) (by have := p5.2 (by omega); omega)
    exact .ret k5 (opF_iff.2 ⟨f1, f2, on, f4, f5, f6, f7, f8, f9, f10⟩)
  · refine Dr.bind (pickInt_dr k4 _ (by simp)) fun c5 n k5 p5 => ?_
    obtain ⟨v, e1, _, e2⟩ := idx_get (xs := o.seen) (n := 0) (by rw [po.seen]; omega)
    have e1 : idx o.seen 0 = some v := e1
    show Dr ((idx o.seen 0).bind _) OpF
    rw [e1, Option.bind_some, e2, Option.bind_some]
    refine .ret k5 (opF_iff.2 ⟨f1, f2, f3, ints_fit (by show (o.seen.set 0 n).length ≤ _; rw [List.length_set, po.seen]; omega) fun x hx => ?_, f5, f6, f7, f8, f9, f10⟩)
    rcases mem_set hx with hx | rfl
    · exact ints_mem f4 x hx
    · simp at p5
      exact i64 (by omega) (by omega)
  · exact .ret k4 (opF_iff.2 ⟨f1, f2, f3, f4, f5, f6, strB (by simp), f8, f9, f10⟩)
theorem op_valid {x : GOp} (h : opB x = true) : (1 ≤ x.time ∧ x.time ≤ 300) ∧ 0 ≤ x.by_ ∧ x.by_ ≤ 2 := by
  unfold opB sIsValidOp at h
  rw [sL1In_ok, sL1In_ok] at h
  simp only [Option.bind_some] at h
  by_cases q1 : (decide (1 ≤ x.time) && decide (x.time ≤ 300)) = true
  · rw [q1] at h
    simp only [Bool.not_true, cond_false] at h
    by_cases q2 : (decide (0 ≤ x.by_) && decide (x.by_ ≤ 2)) = true
    · exact ⟨by simpa using q1, by simpa using q2⟩
    · have q2' : (decide (0 ≤ x.by_) && decide (x.by_ ≤ 2)) = false := by simpa using q2
      rw [q2'] at h
      simp at h
  · have q1' : (decide (1 ≤ x.time) && decide (x.time ≤ 300)) = false := by simpa using q1
    rw [q1'] at h
    simp at h
def cntBy (l : List GOp) (k : Int) : Nat := (l.filter fun x => x.by_ == k).length
theorem iCountBy_ok (a : List GOp) (b : Int) (h : (a.length : Int) ≤ 1048576) : iCountBy a b = some (cntBy a b : Int) := by
  unfold iCountBy
  refine list_eq (fun (s : Int) (i : Nat) => ((b, s, a, (a.length : Int), (i : Int)) : Int × Int × (List GOp) × Int × Int)) a (fun i s => s = (cntBy (a.take i) b : Int)) (cntBy a b : Int) (fun i x s hx hI => .inl ?_) (fun s hI => ?_) 0 rfl
  · have hi := (List.getElem?_eq_some_iff.1 hx).1
    have hle : cntBy (a.take i) b ≤ i := by
      unfold cntBy
      have := List.length_filter_le (fun x : GOp => x.by_ == b) (a.take i)
      rw [List.length_take] at this
      omega
    have hw : w64 ((cntBy (a.take i) b : Int) + 1) = (cntBy (a.take i) b : Int) + 1 := w64_id (by omega) (by omega)
    have hst : cntBy (a.take (i + 1)) b = cntBy (a.take i) b + (if x.by_ == b then 1 else 0) := by
      unfold cntBy
      rw [take_snoc hx, List.filter_append, List.length_append]
      cases hc : (x.by_ == b) <;> simp [hc]
    subst hI
    simp only [dec_lt hx, cond_true, idx_nat, hx, Option.bind_some, w_succ hx (lim20 h), hw]
    cases hc : (x.by_ == b) with
    | true => exact ⟨_, rfl, by rw [hst, hc]; simp⟩
    | false => exact ⟨_, rfl, by rw [hst, hc]; simp⟩
  · rw [List.take_length] at hI
    exact ⟨s, by simp only [nlt_self, cond_false], hI⟩
theorem cntBy_sum : ∀ (l : List GOp), (∀ x, x ∈ l → 0 ≤ x.by_ ∧ x.by_ ≤ 2) → cntBy l 0 + cntBy l 1 + cntBy l 2 = l.length
  | [], _ => rfl
  | x :: r, h => by
    have ih := cntBy_sum r fun y hy => h y (List.mem_cons_of_mem _ hy)
    have hx := h x List.mem_cons_self
    unfold cntBy at ih ⊢
    have : x.by_ = 0 ∨ x.by_ = 1 ∨ x.by_ = 2 := by omega
    rcases this with e | e | e <;> simp [List.filter_cons, e] <;> omega
end Go.Proofs.YtjpmhfhcbehgcaaGreat
