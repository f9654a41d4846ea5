/- Plain laws: the functions on reads and tapes, both sides, are the plain ones. -/
import Derived.Test.YtikafaabbikflaaTape0
import Derived.Test.YtikafaabbikflaaCopy1
import Derived.Test.YtikafaabbikflaaLawsD
set_option linter.unusedSimpArgs false
set_option linter.unusedVariables false
namespace Go.Proofs.Ytikafaabbikflaa
open Go.Abs Go.Proofs

/-- the loop that hands back something of the first element for which the test holds -/
theorem scan_find {α X ρ : Type} {g : X → Option (X ⊕ ρ)} (pk : Nat → X) (xs : List α) (p : α → Bool) (f : α → ρ) (no : ρ)
    (h1 : ∀ i x, xs[i]? = some x → g (pk i) = bif p x then some (.inr (f x)) else some (.inl (pk (i + 1))))
    (h2 : g (pk xs.length) = some (.inr no)) : loopD g (pk 0) = some ((xs.find? p).elim no f) := by
  have key : ∀ (n i : Nat), xs.length = i + n → loopD g (pk i) = some (((xs.drop i).find? p).elim no f) := by
    intro n
    induction n with
    | zero =>
      intro i hi
      rw [List.drop_eq_nil_of_le (by omega), loopD_eq]
      have : i = xs.length := by omega
      subst this
      rw [h2]
      rfl
    | succ n ih =>
      intro i hi
      have hlt : i < xs.length := by omega
      rw [List.drop_eq_getElem_cons hlt, loopD_eq, h1 i xs[i] (List.getElem?_eq_getElem hlt), List.find?_cons]
      cases p xs[i] with
      | false => simpa using ih (i + 1) (by omega)
      | true => rfl
  simpa using key xs.length 0 (by omega)
theorem sameR_s (x y : GRead) : sL16Same x y = some (sameR x y) := sameRead_dec x y
theorem sameR_i (x y : GRead) : iSameRead x y = some (sameR x y) := sameRead_dec x y
theorem read_eta (x : GRead) : GRead.mk x.kind x.n x.time x.text (GVal.mk x.result.kind x.result.n x.result.step x.result.text x.result.list x.result.columns x.result.rows) = x := by
  cases x with
  | mk a b c d r => cases r; rfl
theorem iFindRead_ok (a : List GRead) (b : GRead) (h : FitD B20 (.list (.base .read) a)) : iFindRead a b = some ((findR a b).elim (GVal.mk 0 0 0 [] [] [] [], false) fun x => (x.result, true)) := by
  have hl := lim20 (list20 h)
  unfold iFindRead findR
  refine scan_find (fun i : Nat => (b.kind, b.n, b.time, b.text, b.result.kind, b.result.n, b.result.step, b.result.text, b.result.list, b.result.columns, b.result.rows, (0 : Int), (0 : Int), (0 : Int), ([] : Str), ([] : List GVal), ([] : List Str), ([] : List GRow), a, (a.length : Int), (i : Int))) a (fun x => sameR x b) (fun x => (x.result, true)) _ (fun i x hx => ?_) ?_
  · have f := h.list_mem x (List.mem_of_getElem? hx)
    rw [fit_read] at f
    simp only [dec_lt hx, cond_true, idx_nat, hx, Option.bind_some, reRead_eq, reVal_eq, read_eta, sameR_i, iCopyValue_ok _ f.2.2.2.2, w_succ hx hl]
  · simp only [nlt_self, cond_false]
theorem sFindRead_ok (a : List GRead) (b : GRead) (h : FitD B20 (.list (.base .read) a)) : sFindRead a b = some ((findR a b).elim (GVal.mk 0 0 0 [] [] [] [], false) fun x => (x.result, true)) := by
  have hl := lim20 (list20 h)
  unfold sFindRead findR
  refine scan_find (fun i : Nat => (a, b.kind, b.n, b.time, b.text, b.result.kind, b.result.n, b.result.step, b.result.text, b.result.list, b.result.columns, b.result.rows, (0 : Int), (0 : Int), (0 : Int), ([] : Str), ([] : List GVal), ([] : List Str), ([] : List GRow), (i : Int))) a (fun x => sameR x b) (fun x => (x.result, true)) _ (fun i x hx => ?_) ?_
  · have f := h.list_mem x (List.mem_of_getElem? hx)
    rw [fit_read] at f
    simp only [dec_lt hx, cond_true, idx_nat, hx, Option.bind_some, reRead_eq, reVal_eq, read_eta, sameR_s, sL3Copy_ok _ f.2.2.2.2, w_succ hx hl]
  · simp only [nlt_self, cond_false]
theorem find_snd (a : List GRead) (b : GRead) {y : GVal × Bool} (hy : y = (findR a b).elim (GVal.mk 0 0 0 [] [] [] [], false) fun x => (x.result, true)) : y.2 = hasR a b := by
  subst hy
  rw [← findR_has]
  cases findR a b <;> rfl
theorem addR_fit {l : List GRead} {r : GRead} (h : FitD B20 (.list (.base .read) l)) (hr : Fit B20 (.base .read) r) (hl : (l.length : Int) + 1 ≤ 1048576) : FitD B20 (.list (.base .read) (addR l r)) := by
  unfold addR
  cases hasR l r with
  | true => exact h
  | false =>
    refine mkList20 (by simp; omega) fun x hx => ?_
    rcases List.mem_append.1 hx with hx | hx
    · exact h.list_mem x hx
    · rw [List.mem_singleton.1 hx]; exact hr
theorem addR_len (l : List GRead) (r : GRead) : (addR l r).length ≤ l.length + 1 := by
  unfold addR
  cases hasR l r <;> simp
theorem mergeR_fit {a b : List GRead} (ha : FitD B20 (.list (.base .read) a)) (hb : FitD B20 (.list (.base .read) b)) (hl : (a.length : Int) + b.length ≤ 1048576) : FitD B20 (.list (.base .read) (mergeR a b)) := by
  have := (merge_len a b).2
  refine mkList20 (by omega) fun x hx => ?_
  rcases merge_mem hx with h | h
  · exact ha.list_mem x h
  · exact hb.list_mem x h
theorem iMergeReads_ok (a b : List GRead) (ha : FitD B20 (.list (.base .read) a)) (hb : FitD B20 (.list (.base .read) b)) (hl : (a.length : Int) + b.length ≤ 1048576) : iMergeReads a b = some (mergeR a b) := by
  have hbl := lim20 (list20 hb)
  unfold iMergeReads
  rw [iCopyReads_ok a ha, Option.bind_some]
  refine (loop_foldI (fun (s : List GRead) (i : Nat) => (s, b, (b.length : Int), (i : Int))) b addR id (fun i s => FitD B20 (.list (.base .read) s) ∧ s.length ≤ a.length + i) (fun i x s hx hs => ?_) (fun i x s hx hs => ?_) (fun s hs => ?_) a ⟨ha, by omega⟩).1
  · have hi := (List.getElem?_eq_some_iff.1 hx).1
    refine ⟨addR_fit hs.1 (hb.list_mem x (List.mem_of_getElem? hx)) (by omega), ?_⟩
    have := addR_len s x
    omega
  · have hi := (List.getElem?_eq_some_iff.1 hx).1
    have hf : FitD B20 (.list (.base .read) [x]) := mkList20 (by simp) fun y hy => by rw [List.mem_singleton.1 hy]; exact hb.list_mem x (List.mem_of_getElem? hx)
    simp only [dec_lt hx, cond_true, idx_nat, hx, Option.bind_some, reRead_eq, iFindRead_ok s x hs.1, find_snd s x rfl, iCopyReads_ok _ hf, gd_ok (show s.length + [x].length ≤ 34359738368 by simp; omega), w_succ hx hbl]
    unfold addR
    cases hasR s x <;> rfl
  · simp only [nlt_self, cond_false, id]
theorem sMergeReads_ok (a b : List GRead) (ha : FitD B20 (.list (.base .read) a)) (hb : FitD B20 (.list (.base .read) b)) (hl : (a.length : Int) + b.length ≤ 1048576) : sMergeReads a b = some (mergeR a b) := by
  have hbl := lim20 (list20 hb)
  unfold sMergeReads
  rw [sL16Reads_ok a ha, Option.bind_some]
  refine (loop_foldI (fun (s : List GRead) (i : Nat) => (b, s, (i : Int))) b addR id (fun i s => FitD B20 (.list (.base .read) s) ∧ s.length ≤ a.length + i) (fun i x s hx hs => ?_) (fun i x s hx hs => ?_) (fun s hs => ?_) a ⟨ha, by omega⟩).1
  · have hi := (List.getElem?_eq_some_iff.1 hx).1
    refine ⟨addR_fit hs.1 (hb.list_mem x (List.mem_of_getElem? hx)) (by omega), ?_⟩
    have := addR_len s x
    omega
  · have hi := (List.getElem?_eq_some_iff.1 hx).1
    simp only [dec_lt hx, cond_true, idx_nat, hx, Option.bind_some, reRead_eq, sFindRead_ok s x hs.1, find_snd s x rfl, sL16Read_ok _ (hb.list_mem x (List.mem_of_getElem? hx)), gd_ok (show s.length + [x].length ≤ 34359738368 by simp; omega), w_succ hx hbl]
    unfold addR
    cases hasR s x <;> rfl
  · simp only [nlt_self, cond_false, id]
end Go.Proofs.Ytikafaabbikflaa
