/- Plain laws: copies of values, reads, operations and replicas are the same. Plain laws: MissingOps, AddOp. -/
import Derived.Test.YtjpmhfhcbehgcaaGreatHist1
set_option linter.unusedSimpArgs false
set_option linter.unusedVariables false
namespace Go.Proofs.YtjpmhfhcbehgcaaGreat
open Go.Abs Go.Proofs

theorem take_snoc {α : Type} {xs : List α} {i : Nat} {x : α} (h : xs[i]? = some x) : xs.take (i + 1) = xs.take i ++ [x] := by
  obtain ⟨hi, rfl⟩ := List.getElem?_eq_some_iff.1 h
  exact List.take_succ_eq_append_getElem hi
/-- the loop that copies by append -/
theorem copyApp {α X ρ : Type} {g : X → Option (X ⊕ ρ)} (pk : List α → Nat → X) (xs : List α) (fin : Option ρ)
    (h1 : ∀ i x, xs[i]? = some x → (xs.take i).length = i → g (pk (xs.take i) i) = some (.inl (pk (xs.take i ++ [x]) (i + 1))))
    (h2 : g (pk xs xs.length) = fin.bind fun r => some (.inr r)) : loopD g (pk [] 0) = fin := by
  have key : ∀ (n i : Nat), xs.length = i + n → loopD g (pk (xs.take i) i) = fin := by
    intro n
    induction n with
    | zero =>
      intro i hi
      have : i = xs.length := by omega
      subst this
      rw [loopD_eq, List.take_length, h2]
      cases fin <;> rfl
    | succ n ih =>
      intro i hi
      have hlt : i < xs.length := by omega
      have hx := List.getElem?_eq_getElem hlt
      rw [loopD_eq, h1 i _ hx (by simp; omega)]
      simp only
      rw [← take_snoc hx]
      exact ih (i + 1) (by omega)
  exact key xs.length 0 (by omega)
theorem gd1 {α : Type} {s : List α} {i n : Nat} {x : α} (h : s.length = i) (hi : i < n) (hn : (n : Int) ≤ 1048576) : gd (s.length + [x].length) = some () := gd_ok (by simp; omega)
theorem iCopyRow_ok (x : GRow) (h : Fit B20 (.base .row) x) : iCopyRow x = some x := by
  rw [fit_row] at h
  have := list20 h.1; have := list20 h.2
  unfold iCopyRow
  rw [gd_ok (by omega), Option.bind_some, gd_ok (by omega)]; rfl
theorem sL3Row_ok (x : GRow) (h : Fit B20 (.base .row) x) : sL3Row x = some x := by
  rw [fit_row] at h
  have := list20 h.1; have := list20 h.2
  unfold sL3Row
  rw [gd_ok (by omega), Option.bind_some, gd_ok (by omega)]; rfl
theorem iCopyValueG_ok : ∀ n, (∀ v : GVal, siz v < n → Fit B20 (.base .val) v → (iCopyValueG n).1 v = some v) ∧ (∀ xs : List GVal, siz xs < n → FitD B20 (.list (.base .val) xs) → (iCopyValueG n).2 xs = some xs)
  | 0 => ⟨fun v h => absurd h (Nat.not_lt_zero _), fun v h => absurd h (Nat.not_lt_zero _)⟩
  | n + 1 => by
    have ih := iCopyValueG_ok n
    refine ⟨fun x hx h => ?_, fun xs hx h => ?_⟩
    · rw [fit_val] at h
      obtain ⟨c0, c1, c2, c3, c4, c5, c6⟩ := h
      have l5 := list20 c5; have l6 := list20 c6
      show iCopyValueB (iCopyValueG n).1 (iCopyValueG n).2 x = some x
      unfold iCopyValueB
      rw [ih.2 x.list (by have := siz_list (v := x); omega) c4, Option.bind_some, gd_ok (by omega), Option.bind_some]
      refine copyApp (fun (s : List GRow) (i : Nat) => ((0, 0, 0, [], [], [], [], x.kind, x.n, x.step, x.text, x.list, [] ++ x.columns, s, x.rows, (x.rows.length : Int), (i : Int)) : Int × Int × Int × Str × (List GVal) × (List Str) × (List GRow) × Int × Int × Int × Str × (List GVal) × (List Str) × (List GRow) × (List GRow) × Int × Int))
        x.rows (some x) (fun i y hy hl => ?_) ?_
      · have hi := (List.getElem?_eq_some_iff.1 hy).1
        simp only [dec_lt hy, cond_true, idx_nat, hy, Option.bind_some, iCopyRow_ok y (c6.list_mem y (List.mem_of_getElem? hy)), gd1 hl hi l6, w_succ hy (lim20 l6)]
      · simp only [Int.lt_irrefl, decide_false, cond_false]; cases x; rfl
    · have l := list20 h
      show iCopyValuesB (iCopyValueG n).1 (iCopyValueG n).2 xs = some xs
      unfold iCopyValuesB
      refine copyApp (fun (s : List GVal) (i : Nat) => ((s, xs, (xs.length : Int), (i : Int)) : (List GVal) × (List GVal) × Int × Int)) xs (some xs) (fun i y hy hl => ?_) ?_
      · have hi := (List.getElem?_eq_some_iff.1 hy).1
        simp only [dec_lt hy, cond_true, idx_nat, hy, reVal_eq, Option.bind_some, ih.1 y (by have := siz_mem (List.mem_of_getElem? hy); omega) (h.list_mem y (List.mem_of_getElem? hy)), gd1 hl hi l, w_succ hy (lim20 l)]
      · simp only [Int.lt_irrefl, decide_false, cond_false]; rfl
theorem iCopyValue_ok (x : GVal) (h : Fit B20 (.base .val) x) : iCopyValue x = some x := (iCopyValueG_ok (siz x + 1)).1 x (Nat.lt_succ_self _) h
theorem sL3CopyG_ok : ∀ n, ∀ v : GVal, siz v < n → Fit B20 (.base .val) v → sL3CopyG n v = some v
  | 0 => fun v h => absurd h (Nat.not_lt_zero _)
  | n + 1 => by
    have ih := sL3CopyG_ok n
    intro x hx h
    rw [fit_val] at h
    obtain ⟨c0, c1, c2, c3, c4, c5, c6⟩ := h
    have l4 := list20 c4; have l5 := list20 c5; have l6 := list20 c6
    show sL3CopyB (sL3CopyG n) x = some x
    unfold sL3CopyB
    rw [gd_ok (by omega), Option.bind_some]
    refine copyApp (fun (s : List GVal) (i : Nat) => ((x.kind, x.n, x.step, x.text, x.list, x.columns, x.rows, 0, 0, 0, [], [], [], [], x.kind, x.n, x.step, x.text, s, [] ++ x.columns, [], (i : Int)) : Int × Int × Int × Str × (List GVal) × (List Str) × (List GRow) × Int × Int × Int × Str × (List GVal) × (List Str) × (List GRow) × Int × Int × Int × Str × (List GVal) × (List Str) × (List GRow) × Int))
      x.list (some x) (fun i y hy hl => ?_) ?_
    · have hi := (List.getElem?_eq_some_iff.1 hy).1
      simp only [dec_lt hy, cond_true, idx_nat, hy, reVal_eq, Option.bind_some, ih y (by have := siz_mem (List.mem_of_getElem? hy); have := siz_list (v := x); omega) (c4.list_mem y (List.mem_of_getElem? hy)), gd1 hl hi l4, w_succ hy (lim20 l4)]
    · simp only [Int.lt_irrefl, decide_false, cond_false]
      refine congrArg (fun o => Option.bind o _) (copyApp (fun (s : List GRow) (i : Nat) => ((x.kind, x.n, x.step, x.text, x.list, x.columns, x.rows, 0, 0, 0, [], [], [], [], x.kind, x.n, x.step, x.text, x.list, [] ++ x.columns, s, (i : Int)) : Int × Int × Int × Str × (List GVal) × (List Str) × (List GRow) × Int × Int × Int × Str × (List GVal) × (List Str) × (List GRow) × Int × Int × Int × Str × (List GVal) × (List Str) × (List GRow) × Int))
        x.rows (some x) (fun i y hy hl => ?_) ?_)
      · have hi := (List.getElem?_eq_some_iff.1 hy).1
        simp only [dec_lt hy, cond_true, idx_nat, hy, Option.bind_some, sL3Row_ok y (c6.list_mem y (List.mem_of_getElem? hy)), gd1 hl hi l6, w_succ hy (lim20 l6)]
      · simp only [Int.lt_irrefl, decide_false, cond_false]; cases x; rfl
theorem sL3Copy_ok (x : GVal) (h : Fit B20 (.base .val) x) : sL3Copy x = some x := sL3CopyG_ok (siz x + 1) x (Nat.lt_succ_self _) h
theorem iCopyReads_ok (xs : List GRead) (h : FitD B20 (.list (.base .read) xs)) : iCopyReads xs = some xs := by
  have l := list20 h
  unfold iCopyReads
  refine copyApp (fun (s : List GRead) (i : Nat) => ((s, xs, (xs.length : Int), (i : Int)) : (List GRead) × (List GRead) × Int × Int)) xs (some xs) (fun i y hy hl => ?_) ?_
  · have hi := (List.getElem?_eq_some_iff.1 hy).1
    have f := h.list_mem y (List.mem_of_getElem? hy)
    rw [fit_read] at f
    simp only [dec_lt hy, cond_true, idx_nat, hy, reVal_eq, Option.bind_some, iCopyValue_ok y.result f.2.2.2.2, gd1 hl hi l, w_succ hy (lim20 l)]
  · simp only [Int.lt_irrefl, decide_false, cond_false]; rfl
theorem sL16Read_ok (x : GRead) (h : Fit B20 (.base .read) x) : sL16Read x = some x := by
  rw [fit_read] at h
  unfold sL16Read
  rw [reVal_eq, sL3Copy_ok _ h.2.2.2.2, Option.bind_some, reVal_eq]
theorem sL16Reads_ok (xs : List GRead) (h : FitD B20 (.list (.base .read) xs)) : sL16Reads xs = some xs := by
  have l := list20 h
  unfold sL16Reads
  refine copyApp (fun (s : List GRead) (i : Nat) => ((xs, s, (i : Int)) : (List GRead) × (List GRead) × Int)) xs (some xs) (fun i y hy hl => ?_) ?_
  · have hi := (List.getElem?_eq_some_iff.1 hy).1
    simp only [dec_lt hy, cond_true, idx_nat, hy, reRead_eq, Option.bind_some, sL16Read_ok y (h.list_mem y (List.mem_of_getElem? hy)), gd1 hl hi l, w_succ hy (lim20 l)]
  · simp only [Int.lt_irrefl, decide_false, cond_false]; rfl
theorem iCopyOp_ok (x : GOp) (h : Fit B20 (.base .op) x) : iCopyOp x = some x := by
  rw [fit_op] at h
  obtain ⟨c0, c1, c2, c3, c4, c5, c6, c7, c8, c9⟩ := h
  have := list20 c3
  unfold iCopyOp
  rw [gd_ok (by omega), Option.bind_some, iCopyReads_ok _ c9]; rfl
theorem sL41Copy_ok (x : GOp) (h : Fit B20 (.base .op) x) : sL41Copy x = some x := by
  rw [fit_op] at h
  obtain ⟨c0, c1, c2, c3, c4, c5, c6, c7, c8, c9⟩ := h
  have := list20 c3
  unfold sL41Copy
  rw [gd_ok (by omega), Option.bind_some, sL16Reads_ok _ c9]; rfl
theorem iCopyOps_ok (xs : List GOp) (h : FitD B20 (.list (.base .op) xs)) : iCopyOps xs = some xs := by
  have l := list20 h
  unfold iCopyOps
  refine copyApp (fun (s : List GOp) (i : Nat) => ((s, xs, (xs.length : Int), (i : Int)) : (List GOp) × (List GOp) × Int × Int)) xs (some xs) (fun i y hy hl => ?_) ?_
  · have hi := (List.getElem?_eq_some_iff.1 hy).1
    simp only [dec_lt hy, cond_true, idx_nat, hy, Option.bind_some, iCopyOp_ok y (h.list_mem y (List.mem_of_getElem? hy)), gd1 hl hi l, w_succ hy (lim20 l)]
  · simp only [Int.lt_irrefl, decide_false, cond_false]; rfl
theorem sL41Ops_ok (xs : List GOp) (h : FitD B20 (.list (.base .op) xs)) : sL41Ops xs = some xs := by
  have l := list20 h
  unfold sL41Ops
  refine copyApp (fun (s : List GOp) (i : Nat) => ((xs, s, (i : Int)) : (List GOp) × (List GOp) × Int)) xs (some xs) (fun i y hy hl => ?_) ?_
  · have hi := (List.getElem?_eq_some_iff.1 hy).1
    simp only [dec_lt hy, cond_true, idx_nat, hy, Option.bind_some, sL41Copy_ok y (h.list_mem y (List.mem_of_getElem? hy)), gd1 hl hi l, w_succ hy (lim20 l)]
  · simp only [Int.lt_irrefl, decide_false, cond_false]; rfl
theorem iCopyReplica_ok (x : GReplica) (h : Fit B20 (.base .replica) x) : iCopyReplica x = some x := by
  rw [fit_replica] at h
  unfold iCopyReplica; rw [iCopyOps_ok _ h.2]; rfl
theorem sL43Copy_ok (x : GReplica) (h : Fit B20 (.base .replica) x) : sL43Copy x = some x := by
  rw [fit_replica] at h
  unfold sL43Copy; rw [sL41Ops_ok _ h.2]; rfl

theorem sub_sum {α : Type} (f : α → Nat) {xs ys : List α} (h : xs.Sublist ys) : (xs.map f).sum ≤ (ys.map f).sum := by
  induction h with
  | slnil => exact Nat.le_refl _
  | cons x _ ih => simp only [List.map_cons, List.sum_cons]; omega
  | cons_cons x _ ih => simp only [List.map_cons, List.sum_cons]; omega
theorem sub_snoc {α : Type} {xs ys : List α} {i : Nat} {x : α} (hx : ys[i]? = some x) (h : xs.Sublist (ys.take i)) : (xs ++ [x]).Sublist (ys.take (i + 1)) ∧ xs.Sublist (ys.take (i + 1)) := by
  rw [take_snoc hx]
  exact ⟨h.append (List.Sublist.refl _), h.trans (List.sublist_append_left _ _)⟩
theorem sub_fit {xs ys : List GOp} (h : xs.Sublist ys) (hy : FitD B20 (.list (.base .op) ys)) : FitD B20 (.list (.base .op) xs) :=
  mkList20 (by have := list20 hy; have := h.length_le; omega) fun x hx => hy.list_mem x (h.subset hx)
theorem w64_wf (n : Int) : (Lit.int .i64 (w64 n)).wf = true := by
  unfold Lit.wf w64
  simp [IntKind.wrap, IntKind.bits, IntKind.signed, IntKind.min, IntKind.max]
  omega
theorem validReplica_len (a : GReplica) (h : Fit B20 (.base .replica) a) : ∃ v, sIsValidReplica a = some v ∧ iIsValidReplica a = some v ∧ (v = true → (a.ops.length : Int) ≤ 60) := by
  rw [fit_replica] at h
  obtain ⟨v, e1, e2, e3⟩ := validLog_eq2 a.ops h.2
  unfold sIsValidReplica iIsValidReplica
  simp only [sL1In_ok, iWithin_ok, Option.bind_some, e1, e2]
  cases (decide (0 ≤ a.id) && decide (a.id ≤ 2))
  · exact ⟨_, rfl, rfl, fun h => by cases h⟩
  · exact ⟨_, rfl, rfl, e3⟩
end Go.Proofs.YtjpmhfhcbehgcaaGreat
