/- Plain laws: FnBatches, FnInverseBatches. -/
import Derived.Test.YtmadjfnpidahnaaDr3
set_option linter.unusedSimpArgs false
set_option linter.unusedVariables false
namespace Go.Proofs.Ytmadjfnpidahnaa
open Go.Abs Go.Proofs

theorem big_then {a : List Int} (ha : FitD B47 (.list (.base .u8) a)) {k : Option Bool} (hk : (a.length : Int) ≤ 1048576 → k = some true) : ((big a).bind fun r1 => bif r1 then some (true) else k) = some true := by
  unfold big
  rw [Option.bind_some]
  by_cases h : (a.length : Int) > 1048576
  · rw [decide_eq_true h]; rfl
  · rw [decide_eq_false h]; exact hk (by omega)
/-- a loop that counts down -/
theorem down_ex {X ρ σ : Type} {g : X → Option (X ⊕ ρ)} (pk : σ → Int → X) (I : Int → σ → Prop) (R : ρ)
    (hs : ∀ (i : Nat) s, I (i : Int) s → ∃ s', g (pk s (i : Int)) = some (.inl (pk s' ((i : Int) - 1))) ∧ I ((i : Int) - 1) s')
    (hf : ∀ s, I (-1) s → g (pk s (-1)) = some (.inr R)) : ∀ (n : Nat) (s : σ), I ((n : Int) - 1) s → loopD g (pk s ((n : Int) - 1)) = some R := by
  intro n
  induction n with
  | zero =>
    intro s h
    have : ((0 : Nat) : Int) - 1 = -1 := rfl
    rw [this] at h ⊢
    rw [loopD_eq, hf s h]
  | succ n ih =>
    intro s h
    have e : ((n + 1 : Nat) : Int) - 1 = (n : Int) := by omega
    rw [e] at h ⊢
    obtain ⟨s', e1, h'⟩ := hs n s h
    rw [loopD_eq, e1]
    exact ih s' h'
theorem edits20_list {l : List GEdit} (hl : l.length ≤ 100) (h : ∀ e, e ∈ l → FitE e) : FitD B20 (.list (.base .edit) l) := mkList20 (by omega) h
theorem iApplyBatch_ok (s : List GCell) (b : List GEdit) (hs : FitNb s) (hb : FitD B20 (.list (.base .edit) b)) :
    iApplyBatch (GNotebook.mk s) b = some (if bad (codes s b) = -1 then (GNotebook.mk (runE s b), -1) else (GNotebook.mk s, bad (codes s b))) := by
  obtain ⟨r, e1, e2, _⟩ := applyBatch_eq (GNotebook.mk s) b hs hb
  rw [e2, ← e1]
  exact sApplyBatch_ok s b hs hb
/-- the first code that is not zero, from the place i on -/
def badFrom (l : List Int) (i : Nat) : Int := firstAt (fun c => c != 0) (l.drop i) i
theorem badFrom_step {l : List Int} {i : Nat} {c : Int} (h : l[i]? = some c) : badFrom l i = bif c != 0 then (i : Int) else badFrom l (i + 1) := by
  obtain ⟨hi, rfl⟩ := List.getElem?_eq_some_iff.1 h
  unfold badFrom
  rw [List.drop_eq_getElem_cons hi]
  rfl
theorem badFrom_end (l : List Int) : badFrom l l.length = -1 := by
  unfold badFrom
  rw [List.drop_length]; rfl
theorem law_FnBatches (a : List Int) (ha : FitD B47 (.list (.base .u8) a)) : FnBatches a = some true := by
  refine big_then ha fun hl => ?_
  obtain ⟨nb, l, e1, hn, hn9, hl8, he⟩ := args39_ok a hl
  have hE := edits20_list (by omega) he
  obtain ⟨cs⟩ := nb
  unfold sDrawApplyBatch
  simp only [e1, Option.bind_some, iApplyBatch_ok cs l hn hE, sApplyEdits_ok cs l hn hE]
  have hcl : (codes cs l).length = l.length := codes_len cs l
  have hnl : (cs.length : Int) ≤ 1048576 := nb_len hn
  have hrl : ((runE cs l).length : Int) ≤ 1048576 := nb_len (runE_fit hn he)
  have hw : w64 (((codes cs l).length : Int) - 1) = ((codes cs l).length : Int) - 1 := w64_id (by omega) (by omega)
  rw [hw]
  refine down_ex (fun (s : Int) (i : Int) => ((cs, (if bad (codes cs l) = -1 then (GNotebook.mk (runE cs l), (-1 : Int)) else (GNotebook.mk cs, bad (codes cs l))).1.cells, (if bad (codes cs l) = -1 then (GNotebook.mk (runE cs l), (-1 : Int)) else (GNotebook.mk cs, bad (codes cs l))).2, runE cs l, codes cs l, s, i) : (List GCell) × (List GCell) × Int × (List GCell) × (List Int) × Int × Int))
    (fun i s => i < (codes cs l).length ∧ s = badFrom (codes cs l) (i + 1).toNat) true (fun i s hI => ?_) (fun s hI => ?_) (codes cs l).length (-1) ⟨by omega, ?_⟩
  · obtain ⟨h1, h2⟩ := hI
    obtain ⟨c, ec, _, ec'⟩ := idx_get (xs := codes cs l) (n := i) (by omega)
    have hwi : w64 ((i : Int) - 1) = (i : Int) - 1 := w64_id (by omega) (by omega)
    have e1 : ((i : Int) + 1).toNat = i + 1 := by omega
    have e2 : ((i : Int) - 1 + 1).toNat = i := by omega
    rw [e1] at h2
    have st := badFrom_step ec'
    simp only [decide_eq_true (show (i : Int) ≥ 0 by omega), cond_true, ec, ec', Int.toNat_natCast, Option.bind_some, hwi]
    cases hc : (c != 0) with
    | true => exact ⟨(i : Int), rfl, by omega, by rw [e2, st, hc]; rfl⟩
    | false => exact ⟨s, rfl, by omega, by rw [e2, st, hc, h2]; rfl⟩
  · obtain ⟨_, h2⟩ := hI
    have h2 : s = bad (codes cs l) := h2
    subst h2
    simp only [show decide ((-1 : Int) ≥ 0) = false from rfl, cond_false]
    by_cases hb : bad (codes cs l) = -1
    · simp only [if_pos hb]
      simp only [hb, bne_self_i, cond_false, show decide ((-1 : Int) ≥ 0) = false from rfl]
      rw [sEqualNotebook_ok _ _ (lim20 hrl), eqd_self]
      rfl
    · have hge : bad (codes cs l) ≥ 0 := by
        rcases bad_cases (codes cs l) with ⟨h, _⟩ | ⟨n, c, h, _⟩
        · exact absurd h hb
        · rw [h]; omega
      simp only [if_neg hb, bne_self_i, cond_false, decide_eq_true hge, cond_true]
      rw [sEqualNotebook_ok _ _ (lim20 hnl), eqd_self]
      rfl
  · have : (((codes cs l).length : Int) - 1 + 1).toNat = (codes cs l).length := by omega
    rw [this, badFrom_end]
theorem backE_fit : ∀ {xs : List GEdit} {s : List GCell}, FitNb s → (∀ e, e ∈ xs → FitE e) → ∀ e, e ∈ backE s xs → FitE e
  | [], s, h, _ => fun e he => (by cases he)
  | x :: r, s, h, hx => fun e he => by
    rcases List.mem_append.1 he with he | he
    · exact backE_fit (xs := r) (apE_fit h (hx x List.mem_cons_self)) (fun y hy => hx y (List.mem_cons_of_mem _ hy)) e he
    · rw [List.mem_singleton.1 he]; exact ivE_fit h (hx x List.mem_cons_self)
theorem codes_head {s : List GCell} {e : GEdit} {r : List GEdit} (h : ∀ c, c ∈ codes s (e :: r) → c = 0) : nbB s = true := (apE_zero (h _ List.mem_cons_self)).1
theorem runE_nb : ∀ {xs : List GEdit} {s : List GCell}, Nb s → (∀ e, e ∈ xs → FitE e) → (∀ c, c ∈ codes s xs → c = 0) → Nb (runE s xs)
  | [], s, h, _, _ => h
  | e :: r, s, h, he, hc => runE_nb (xs := r) (apE_nb h (he e List.mem_cons_self) (hc _ List.mem_cons_self)) (fun x hx => he x (List.mem_cons_of_mem _ hx)) fun c h' => hc c (List.mem_cons_of_mem _ h')
theorem inverse_ok (s : List GCell) (l : List GEdit) (hs : FitNb s) (hl : ∀ e, e ∈ l → FitE e) (hz : ∀ c, c ∈ codes s l → c = 0) :
    ((∀ c, c ∈ codes (runE s l) (backE s l) → c = 0) ∧ (runE (runE s l) (backE s l)).map uncell = s.map uncell) ∨
      ∃ k : Nat, (codes (runE s l) (backE s l))[k]? = some 6 ∧ ∀ j, j < k → (codes (runE s l) (backE s l))[j]? = some 0 := by
  cases l with
  | nil => exact .inl ⟨fun c h => (by cases h), rfl⟩
  | cons e r =>
    have hn := (nbB_iff hs).1 (codes_head hz)
    rcases batch_back (e :: r) s _ hn hl hz (runE_nb hn hl hz) rfl with ⟨h1, h2, _⟩ | h
    · exact .inl ⟨h1, h2⟩
    · exact .inr h
theorem isNoChange_ok (s : List GCell) (b : List GEdit) (hs : FitNb s) (hb : FitD B20 (.list (.base .edit) b)) (hz : bad (codes s b) = -1) (hc : (runE s b).map uncell = s.map uncell) : iIsNoChange (GNotebook.mk s) b = some true := by
  have hr : FitNb (runE s b) := runE_fit hs hb.list_mem
  unfold iIsNoChange
  rw [iApplyBatch_ok s b hs hb, if_pos hz]
  simp only [Option.bind_some]
  rw [sameContentI _ _ (nb_len hs) (nb_len hr), hc, eqd_self]
  rfl
theorem law_FnInverseBatches (a : List Int) (ha : FitD B47 (.list (.base .u8) a)) : FnInverseBatches a = some true := by
  refine big_then ha fun hl => ?_
  obtain ⟨nb, l, e1, hn, hn9, hl8, he⟩ := args39_ok a hl
  have hE := edits20_list (by omega) he
  obtain ⟨cs⟩ := nb
  unfold sDrawInverseBatch
  simp only [e1, Option.bind_some, iApplyBatch_ok cs l hn hE, sApplyBatch_ok cs l hn hE, iInverseBatch_ok cs l hn hE, bne_self_i, cond_false]
  by_cases hb : bad (codes cs l) = -1
  · have hz := bad_zero hb
    have hrf : FitNb (runE cs l) := runE_fit hn he
    have hbf := backE_fit hn he
    have hbl := backE_len cs l
    have hB := edits20_list (l := backE cs l) (by omega) hbf
    simp only [if_pos hb, beq_self_eq_true, Bool.not_true, cond_false, cond_true, hbl, bne_self_i, iApplyBatch_ok (runE cs l) (backE cs l) hrf hB, Option.bind_some]
    rcases inverse_ok cs l hn he hz with ⟨h1, h2⟩ | ⟨k, h1, h2⟩
    · have hb2 := bad_none h1
      have hrf2 : FitNb (runE (runE cs l) (backE cs l)) := runE_fit hrf hbf
      have hall : FitD B20 (.list (.base .edit) (l ++ backE cs l)) := edits20_list (by rw [List.length_append]; omega) fun e h => by
        rcases List.mem_append.1 h with h | h
        · exact he e h
        · exact hbf e h
      have hbb : bad (codes cs (l ++ backE cs l)) = -1 := bad_none fun c h => by
        rw [codes_append] at h
        rcases List.mem_append.1 h with h | h
        · exact hz c h
        · exact h1 c h
      have hrr : (runE cs (l ++ backE cs l)).map uncell = cs.map uncell := by rw [runE_append]; exact h2
      simp only [if_pos hb2, show decide ((-1 : Int) ≥ 0) = false from rfl, cond_false]
      rw [sameContentS _ _ (nb_len hrf2) (nb_len hn), h2, eqd_self, Option.bind_some, cond_true, gd_ok (by omega), Option.bind_some, gd_ok (by simp; omega), Option.bind_some]
      rw [List.nil_append, isNoChange_ok cs _ hn hall hbb hrr]
      rfl
    · have hb2 := bad_at h2 h1 (by decide)
      have hne : ¬ bad (codes (runE cs l) (backE cs l)) = -1 := by rw [hb2]; omega
      have hkl := (List.getElem?_eq_some_iff.1 h1).1
      simp only [if_neg hne]
      rw [hb2]
      simp only [decide_eq_true (show ((k : Nat) : Int) ≥ 0 by omega), cond_true, sApplyEdits_ok (runE cs l) (backE cs l) hrf hB, Option.bind_some, idx_nat, h1, Int.toNat_natCast]
      rfl
  · have hge : ¬ bad (codes cs l) = -1 := hb
    have : (bad (codes cs l) == -1) = false := by simpa using hb
    simp only [if_neg hb, this, beq_self_eq_true, Bool.not_true, Bool.not_false, cond_false, cond_true]
    rfl
end Go.Proofs.Ytmadjfnpidahnaa
