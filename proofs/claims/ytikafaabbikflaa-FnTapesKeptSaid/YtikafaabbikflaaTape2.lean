/- Plain laws: putting and copying of tapes, both sides. -/
import Derived.Test.YtikafaabbikflaaTape1
set_option linter.unusedSimpArgs false
set_option linter.unusedVariables false
namespace Go.Proofs.Ytikafaabbikflaa
open Go.Abs Go.Proofs

theorem sL26At_ok (a : List GTape) (b c : Int) (h : a.length < lim) : sL26At a b c = some (firstAt (keyT b c) a 0) := by
  refine scan_first (fun i => ((a, b, c, (i : Int)) : List GTape × Int × Int × Int)) a (keyT b c) (fun i x hx => ?_) ?_
  · simp only [dec_lt hx, cond_true, idx_nat, hx, Option.bind_some, w_succ hx h, keyT, beq_dec]
    cases eqd x.cell b <;> cases eqd x.version c <;> rfl
  · simp only [nlt_self, cond_false]
theorem iTapeIndex_ok (a : List GTape) (b c : Int) (h : a.length < lim) : iTapeIndex a b c = some (firstAt (keyT b c) a 0) := by
  refine scan_first (fun i => ((b, c, a, (a.length : Int), (i : Int)) : Int × Int × List GTape × Int × Int)) a (keyT b c) (fun i x hx => ?_) ?_
  · simp only [dec_lt hx, cond_true, idx_nat, hx, Option.bind_some, w_succ hx h, keyT, beq_dec]
    cases eqd x.cell b <;> cases eqd x.version c <;> rfl
  · simp only [nlt_self, cond_false]
theorem key_at (c v : Int) (rs : List GRead) : ∀ (xs : List GTape) (i : Nat), (firstAt (keyT c v) xs i = -1 ∧ xs.any (keyT c v) = false) ∨
    ∃ (n : Nat) (x : GTape), firstAt (keyT c v) xs i = ((i + n : Nat) : Int) ∧ xs[n]? = some x ∧ xs.any (keyT c v) = true ∧ readsOf xs c v = x.reads ∧ growT c v rs xs = xs.set n (GTape.mk x.cell x.version (mergeR x.reads rs))
  | [], i => .inl ⟨rfl, rfl⟩
  | t :: r, i => by
    cases hk : keyT c v t with
    | true =>
      refine .inr ⟨0, t, ?_, rfl, ?_, ?_, ?_⟩
      · unfold firstAt; rw [hk]; simp
      · rw [List.any_cons, hk]; rfl
      · rw [readsOf_cons, hk]; rfl
      · unfold growT; rw [hk]; rfl
    | false =>
      rcases key_at c v rs r (i + 1) with ⟨h1, h2⟩ | ⟨n, x, h1, h2, h3, h4, h5⟩
      · refine .inl ⟨?_, ?_⟩
        · unfold firstAt; rw [hk, cond_false, h1]
        · rw [List.any_cons, hk, h2]; rfl
      · refine .inr ⟨n + 1, x, ?_, by simpa using h2, ?_, ?_, ?_⟩
        · unfold firstAt; rw [hk, cond_false, h1]
          have : i + 1 + n = i + (n + 1) := by omega
          rw [this]
        · rw [List.any_cons, hk, h3]; rfl
        · rw [readsOf_cons, hk, cond_false, h4]
        · unfold growT; rw [hk, cond_false, h5]; rfl
theorem tape_of {l : List GTape} (h : FitD B20 (.list (.base .tape) l)) {t : GTape} (ht : t ∈ l) : FitD B20 (.int .i64 t.cell) ∧ FitD B20 (.int .i64 t.version) ∧ FitD B20 (.list (.base .read) t.reads) := by
  have := h.list_mem t ht
  rw [fit_tape] at this
  exact this
theorem iCopyTapes_ok (a : List GTape) (h : FitD B20 (.list (.base .tape) a)) : iCopyTapes a = some a := by
  have l := list20 h
  refine copyApp (fun (s : List GTape) (i : Nat) => ((s, a, (a.length : Int), (i : Int)) : (List GTape) × (List GTape) × Int × Int)) a (some a) (fun i y hy hl => ?_) ?_
  · have hi := (List.getElem?_eq_some_iff.1 hy).1
    simp only [dec_lt hy, cond_true, idx_nat, hy, Option.bind_some, iCopyReads_ok _ (tape_of h (List.mem_of_getElem? hy)).2.2, gd_ok (show (a.take i).length + [y].length ≤ 34359738368 by simp only [hl, List.length_singleton]; omega), w_succ hy (lim20 l)]
  · simp only [nlt_self, cond_false]; rfl
theorem sL26Copy_ok (a : List GTape) (h : FitD B20 (.list (.base .tape) a)) : sL26Copy a = some a := by
  have l := list20 h
  refine copyApp (fun (s : List GTape) (i : Nat) => ((a, s, (i : Int)) : (List GTape) × (List GTape) × Int)) a (some a) (fun i y hy hl => ?_) ?_
  · have hi := (List.getElem?_eq_some_iff.1 hy).1
    simp only [dec_lt hy, cond_true, idx_nat, hy, Option.bind_some, sL16Reads_ok _ (tape_of h (List.mem_of_getElem? hy)).2.2, gd_ok (show (a.take i).length + [y].length ≤ 34359738368 by simp only [hl, List.length_singleton]; omega), w_succ hy (lim20 l)]
  · simp only [nlt_self, cond_false]; rfl
theorem sTapeOf_ok (a : List GTape) (b c : Int) (h : FitD B20 (.list (.base .tape) a)) : sTapeOf a b c = some (readsOf a b c) := by
  unfold sTapeOf
  rw [sL26At_ok a b c (lim20 (list20 h)), Option.bind_some]
  rcases key_at b c [] a 0 with ⟨h1, h2⟩ | ⟨n, x, h1, h2, h3, h4, h5⟩
  · rw [h1, readsOf_none h2]; rfl
  · rw [h1, h4, Nat.zero_add]
    simp only [show decide (((n : Nat) : Int) < 0) = false by simp, cond_false, idx_nat, h2, Option.bind_some, sL16Reads_ok _ (tape_of h (List.mem_of_getElem? h2)).2.2]
theorem iTapeOf_ok (a : List GTape) (b c : Int) (h : FitD B20 (.list (.base .tape) a)) : iTapeOf a b c = some (readsOf a b c) := by
  unfold iTapeOf
  rw [iTapeIndex_ok a b c (lim20 (list20 h)), Option.bind_some]
  rcases key_at b c [] a 0 with ⟨h1, h2⟩ | ⟨n, x, h1, h2, h3, h4, h5⟩
  · rw [h1, readsOf_none h2]; rfl
  · rw [h1, h4, Nat.zero_add]
    simp only [show decide (((n : Nat) : Int) < 0) = false by simp, cond_false, idx_nat, h2, Option.bind_some, iCopyReads_ok _ (tape_of h (List.mem_of_getElem? h2)).2.2]
theorem readsOf_mem (a : List GTape) (b c : Int) : readsOf a b c = [] ∨ ∃ t, t ∈ a ∧ readsOf a b c = t.reads := by
  rcases key_at b c [] a 0 with ⟨h1, h2⟩ | ⟨n, x, h1, h2, h3, h4, h5⟩
  · exact .inl (readsOf_none h2)
  · exact .inr ⟨x, List.mem_of_getElem? h2, h4⟩
theorem readsOf_fit (a : List GTape) (b c : Int) (h : FitD B20 (.list (.base .tape) a)) : FitD B20 (.list (.base .read) (readsOf a b c)) := by
  rcases readsOf_mem a b c with h1 | ⟨t, ht, h1⟩
  · rw [h1]; exact mkList20 (by simp) fun x hx => by cases hx
  · rw [h1]; exact (tape_of h ht).2.2
theorem bef_s (x y : GTape) : sL26Before x y = some (befT x y) := by
  unfold sL26Before befT
  simp only [beq_dec]
  cases decide (x.cell < y.cell) <;> cases eqd x.cell y.cell <;> rfl
theorem bef_i (x y : GTape) : iTapeBefore x y = some (befT x y) := bef_s x y
theorem insLoop {X : Type} {g : X → Option (X ⊕ List GTape)} (pk : Nat → X) (l : List GTape) (x : GTape)
    (h1 : ∀ i t, l[i]? = some t → g (pk i) = bif befT x t then some (.inr (l.take i ++ [x] ++ l.drop i)) else some (.inl (pk (i + 1))))
    (h2 : g (pk l.length) = some (.inr (l ++ [x]))) : loopD g (pk 0) = some (insT x l) := by
  have key : ∀ (n i : Nat), l.length = i + n → loopD g (pk i) = some (l.take i ++ insT x (l.drop i)) := by
    intro n
    induction n with
    | zero =>
      intro i hi
      have : i = l.length := by omega
      subst this
      rw [loopD_eq, h2, List.drop_length, List.take_length]
      rfl
    | succ n ih =>
      intro i hi
      have hlt : i < l.length := by omega
      have hx := List.getElem?_eq_getElem hlt
      rw [loopD_eq, h1 i _ hx, List.drop_eq_getElem_cons hlt]
      unfold insT
      cases befT x l[i] with
      | true => simp only [cond_true, List.append_assoc, List.singleton_append]
      | false =>
        simp only [cond_false]
        rw [ih (i + 1) (by omega), take_snoc hx, List.append_assoc]
        rfl
  simpa using key l.length 0 (by omega)
/-- tapes that are small: their number, and the reads in one -/
def Tps (N M : Nat) (l : List GTape) : Prop := FitD B20 (.list (.base .tape) l) ∧ l.length ≤ N ∧ ∀ t ∈ l, t.reads.length ≤ M
theorem putT_tps {N M K : Nat} {l : List GTape} {c v : Int} {rs : List GRead} (h : Tps N M l) (hr : FitD B20 (.list (.base .read) rs)) (hK : rs.length ≤ K) (hN : N + 1 ≤ 1048576) (hM : M + K ≤ 1048576)
    (hc : FitD B20 (.int .i64 c)) (hv : FitD B20 (.int .i64 v)) : Tps (N + 1) (M + K) (putT l c v rs) := by
  obtain ⟨h1, h2, h3⟩ := h
  have hl := putT_len l c v rs
  have key : ∀ t ∈ putT l c v rs, Fit B20 (.base .tape) t ∧ t.reads.length ≤ M + K := by
    intro t ht
    rcases putT_mem ht with ht | ⟨u, hu, rfl⟩ | rfl
    · exact ⟨h1.list_mem t ht, by have := h3 t ht; omega⟩
    · have f := tape_of h1 hu
      have := h3 u hu
      have hm := (merge_len u.reads rs).2
      exact ⟨fit_tape.2 ⟨f.1, f.2.1, mergeR_fit f.2.2 hr (by omega)⟩, by show (mergeR u.reads rs).length ≤ _; omega⟩
    · have hm := (merge_len [] rs).2
      exact ⟨fit_tape.2 ⟨hc, hv, mergeR_fit (mkList20 (by simp) fun x hx => by cases hx) hr (by simp; omega)⟩, by show (mergeR [] rs).length ≤ _; simp at hm; omega⟩
  exact ⟨mkList20 (by omega) fun t ht => (key t ht).1, by omega, fun t ht => (key t ht).2⟩
theorem sPutTape_ok {N M : Nat} (a : List GTape) (b c : Int) (d : List GRead) (h : Tps N M a) (hd : FitD B20 (.list (.base .read) d)) (hM : M + d.length ≤ 1048576) : sPutTape a b c d = some (putT a b c d) := by
  obtain ⟨h1, h2, h3⟩ := h
  have hl := list20 h1
  unfold sPutTape
  rw [sL26Copy_ok a h1, Option.bind_some, sL26At_ok a b c (lim20 hl), Option.bind_some]
  rcases key_at b c d a 0 with ⟨k1, k2⟩ | ⟨n, x, k1, k2, k3, k4, k5⟩
  · rw [k1]
    simp only [show decide ((-1 : Int) ≥ 0) = false from rfl, cond_false]
    unfold putT
    rw [k2, cond_false]
    cases d with
    | nil => rfl
    | cons r rs =>
      have e : ((((r :: rs).length : Nat) : Int) == 0) = false := by simp; omega
      rw [e, cond_false, sMergeReads_ok [] (r :: rs) (mkList20 (by simp) fun x hx => by cases hx) hd (by simp only [List.length_nil]; omega), Option.bind_some]
      refine insLoop (fun (i : Nat) => ((a, b, c, mergeR [] (r :: rs), (i : Int)) : (List GTape) × Int × Int × (List GRead) × Int)) a (GTape.mk b c (mergeR [] (r :: rs))) (fun i t ht => ?_) ?_
      · have hi := (List.getElem?_eq_some_iff.1 ht).1
        simp only [dec_lt ht, cond_true, idx_nat, ht, Option.bind_some, Int.toNat_natCast, bef_s, w_succ ht (lim20 hl), cutL_to a i (by omega), cutL_from a i (by omega)]
        rw [gd_ok (show 0 + (a.take i).length ≤ 34359738368 by simp; omega), Option.bind_some, gd_ok (show (([] : List GTape) ++ a.take i).length + [GTape.mk b c (mergeR [] (r :: rs))].length ≤ 34359738368 by simp; omega), Option.bind_some,
          gd_ok (show (([] : List GTape) ++ a.take i ++ [GTape.mk b c (mergeR [] (r :: rs))]).length + (a.drop i).length ≤ 34359738368 by simp; omega), Option.bind_some, Option.bind_some, List.nil_append]
        cases befT (GTape.mk b c (mergeR [] (r :: rs))) t <;> rfl
      · simp only [nlt_self, cond_false, cutL_to a a.length (Nat.le_refl _), cutL_from a a.length (Nat.le_refl _), Option.bind_some, List.take_length, List.drop_length]
        rw [gd_ok (show 0 + a.length ≤ 34359738368 by omega), Option.bind_some, gd_ok (show (([] : List GTape) ++ a).length + [GTape.mk b c (mergeR [] (r :: rs))].length ≤ 34359738368 by simp; omega), Option.bind_some,
          gd_ok (show (([] : List GTape) ++ a ++ [GTape.mk b c (mergeR [] (r :: rs))]).length + ([] : List GTape).length ≤ 34359738368 by simp; omega), Option.bind_some, Option.bind_some, List.append_nil, List.nil_append]
  · rw [k1, Nat.zero_add]
    have hx := List.mem_of_getElem? k2
    have := h3 x hx
    simp only [show decide (((n : Nat) : Int) ≥ 0) = true by simp, cond_true, idx_nat, k2, Option.bind_some, Int.toNat_natCast, sMergeReads_ok x.reads d (tape_of h1 hx).2.2 hd (by omega)]
    unfold putT
    rw [k3, cond_true, k5]
theorem iPutTape_ok {N M : Nat} (a : List GTape) (b c : Int) (d : List GRead) (h : Tps N M a) (hd : FitD B20 (.list (.base .read) d)) (hM : M + d.length ≤ 1048576) : iPutTape a b c d = some (putT a b c d) := by
  obtain ⟨h1, h2, h3⟩ := h
  have hl := list20 h1
  unfold iPutTape
  rw [iCopyTapes_ok a h1, Option.bind_some, iTapeIndex_ok a b c (lim20 hl), Option.bind_some]
  rcases key_at b c d a 0 with ⟨k1, k2⟩ | ⟨n, x, k1, k2, k3, k4, k5⟩
  · rw [k1]
    simp only [show decide ((-1 : Int) ≥ 0) = false from rfl, cond_false]
    unfold putT
    rw [k2, cond_false]
    cases d with
    | nil => rfl
    | cons r rs =>
      have e : ((((r :: rs).length : Nat) : Int) == 0) = false := by simp; omega
      rw [e, cond_false, iMergeReads_ok [] (r :: rs) (mkList20 (by simp) fun x hx => by cases hx) hd (by simp only [List.length_nil]; omega), Option.bind_some]
      refine insLoop (fun (i : Nat) => ((a, (i : Int), b, c, mergeR [] (r :: rs)) : (List GTape) × Int × Int × Int × (List GRead))) a (GTape.mk b c (mergeR [] (r :: rs))) (fun i t ht => ?_) ?_
      · have hi := (List.getElem?_eq_some_iff.1 ht).1
        simp only [dec_lt ht, cond_true, idx_nat, ht, Option.bind_some, Int.toNat_natCast, bef_i, w_succ ht (lim20 hl), cutL_to a i (by omega), cutL_from a i (by omega)]
        rw [gd_ok (show 0 + (a.take i).length ≤ 34359738368 by simp; omega), Option.bind_some, gd_ok (show (([] : List GTape) ++ a.take i).length + [GTape.mk b c (mergeR [] (r :: rs))].length ≤ 34359738368 by simp; omega), Option.bind_some,
          gd_ok (show (([] : List GTape) ++ a.take i ++ [GTape.mk b c (mergeR [] (r :: rs))]).length + (a.drop i).length ≤ 34359738368 by simp; omega), Option.bind_some, Option.bind_some, List.nil_append]
        cases befT (GTape.mk b c (mergeR [] (r :: rs))) t <;> rfl
      · simp only [nlt_self, cond_false, cutL_to a a.length (Nat.le_refl _), cutL_from a a.length (Nat.le_refl _), Option.bind_some, List.take_length, List.drop_length]
        rw [gd_ok (show 0 + a.length ≤ 34359738368 by omega), Option.bind_some, gd_ok (show (([] : List GTape) ++ a).length + [GTape.mk b c (mergeR [] (r :: rs))].length ≤ 34359738368 by simp; omega), Option.bind_some,
          gd_ok (show (([] : List GTape) ++ a ++ [GTape.mk b c (mergeR [] (r :: rs))]).length + ([] : List GTape).length ≤ 34359738368 by simp; omega), Option.bind_some, Option.bind_some, List.append_nil, List.nil_append]
  · rw [k1, Nat.zero_add]
    have hx := List.mem_of_getElem? k2
    have := h3 x hx
    simp only [show decide (((n : Nat) : Int) ≥ 0) = true by simp, cond_true, idx_nat, k2, Option.bind_some, Int.toNat_natCast, iMergeReads_ok x.reads d (tape_of h1 hx).2.2 hd (by omega)]
    unfold putT
    rw [k3, cond_true, k5]
theorem readsOf_len {N M : Nat} {a : List GTape} (h : Tps N M a) (b c : Int) : (readsOf a b c).length ≤ M := by
  rcases readsOf_mem a b c with h1 | ⟨t, ht, h1⟩
  · rw [h1]; simp
  · rw [h1]; exact h.2.2 t ht
theorem sCopyTape_ok {N M : Nat} (a : List GTape) (b c d : Int) (h : Tps N M a) (hM : M + M ≤ 1048576) : sCopyTape a b c d = some (putT a b d (readsOf a b c)) := by
  have := readsOf_len h b c
  unfold sCopyTape
  rw [sTapeOf_ok a b c h.1, Option.bind_some, sPutTape_ok a b d _ h (readsOf_fit a b c h.1) (by omega)]; rfl
theorem iCopyTape_ok {N M : Nat} (a : List GTape) (b c d : Int) (h : Tps N M a) (hM : M + M ≤ 1048576) : iCopyTape a b c d = some (putT a b d (readsOf a b c)) := by
  have := readsOf_len h b c
  unfold iCopyTape
  rw [iTapeOf_ok a b c h.1, Option.bind_some, iPutTape_ok a b d _ h (readsOf_fit a b c h.1) (by omega)]; rfl
/-- copying again changes nothing -/
theorem copy_again (l : List GTape) (b c d : Int) : putT (putT l b d (readsOf l b c)) b d (readsOf (putT l b d (readsOf l b c)) b c) = putT l b d (readsOf l b c) := by
  by_cases hcd : c = d
  · subst hcd
    have e : readsOf (putT l b c (readsOf l b c)) b c = readsOf l b c := by rw [putT_readsOf]; exact merge_self _
    rw [e]
    exact putT_again _ _ _ _
  · have e : readsOf (putT l b d (readsOf l b c)) b c = readsOf l b c := putT_other l b d _ fun h => hcd h.2
    rw [e]
    exact putT_again _ _ _ _
/-- equality of tapes and of reads -/
theorem nil20 {t : Ty} : FitD B20 (.list t []) := mkList20 (by simp) fun x hx => (by cases hx)
theorem sameTapes_ok (a b : List GTape) (h : FitD B20 (.list (.base .tape) a)) : sameTapes a b = some (eqd a b) := by
  have hn : Fit B20 (.base .document) (GDocument.mk (GNotebook.mk []) a []) := by
    rw [fit_document, fit_notebook]
    exact ⟨nil20, h, nil20⟩
  unfold sameTapes
  rw [sEqualDocument_ok _ _ hn, Option.bind_some, eqd_self]; rfl
theorem sameReads_ok (a b : List GRead) (h : FitD B20 (.list (.base .read) a)) : sameReads a b = some (eqd a b) := by
  have z : FitD B20 (.int .i64 0) := .int .i64 _ (by decide)
  unfold sameReads
  rw [sameTapes_ok _ _ (mkList20 (by simp) fun x hx => by rw [List.mem_singleton.1 hx, fit_tape]; exact ⟨z, z, h⟩), Option.bind_some]
  congr 1
  rw [Bool.eq_iff_iff, eqd_iff, eqd_iff]
  simp
end Go.Proofs.Ytikafaabbikflaa
