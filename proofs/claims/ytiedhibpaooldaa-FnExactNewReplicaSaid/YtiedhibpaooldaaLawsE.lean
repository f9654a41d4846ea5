/- Plain laws with marks: ChangedVersions, NewHistory, PathTo. -/
import Derived.Test.YtiedhibpaooldaaMarks
import Derived.Test.YtiedhibpaooldaaPlain5
import Derived.Test.YtiedhibpaooldaaPlain6
set_option linter.unusedSimpArgs false
set_option linter.unusedVariables false
namespace Go.Proofs.Ytiedhibpaooldaa
open Go.Abs Go.Proofs

theorem loop_foldI {α σ ρ X : Type} {g : X → Option (X ⊕ ρ)} (pk : σ → Nat → X) (xs : List α) (f : σ → α → σ) (fin : σ → ρ) (I : Nat → σ → Prop)
    (hI : ∀ i x s, xs[i]? = some x → I i s → I (i + 1) (f s x))
    (h1 : ∀ i x s, xs[i]? = some x → I i s → g (pk s i) = some (.inl (pk (f s x) (i + 1))))
    (h2 : ∀ s, I xs.length s → g (pk s xs.length) = some (.inr (fin s))) (s : σ) (h0 : I 0 s) : loopD g (pk s 0) = some (fin (xs.foldl f s)) ∧ I xs.length (xs.foldl f s) := by
  have key : ∀ (n i : Nat) (s : σ), xs.length = i + n → I i s → loopD g (pk s i) = some (fin ((xs.drop i).foldl f s)) ∧ I xs.length ((xs.drop i).foldl f s) := by
    intro n
    induction n with
    | zero =>
      intro i s hi hs
      rw [List.drop_eq_nil_of_le (by omega), loopD_eq]
      have : i = xs.length := by omega
      subst this
      rw [h2 s hs]
      exact ⟨rfl, hs⟩
    | succ n ih =>
      intro i s hi hs
      have hlt : i < xs.length := by omega
      have hx := List.getElem?_eq_getElem hlt
      rw [List.drop_eq_getElem_cons hlt, loopD_eq, h1 i xs[i] s hx hs]
      exact ih (i + 1) (f s xs[i]) (by omega) (hI i xs[i] s hx hs)
  simpa using key xs.length 0 s (by omega) h0
theorem gd_ok {n : Nat} (h : n ≤ 34359738368) : gd n = some () := by unfold gd; rw [if_pos h]
theorem firstAt_idx {α : Type} (p : α → Bool) : ∀ (xs : List α) (i : Nat), firstAt p xs i = -1 ∨ ∃ (n : Nat) (x : α), firstAt p xs i = ((i + n : Nat) : Int) ∧ xs[n]? = some x
  | [], i => .inl rfl
  | y :: ys, i => by
    unfold firstAt
    cases hp : p y with
    | true => exact .inr ⟨0, y, by simp, rfl⟩
    | false =>
      rcases firstAt_idx p ys (i + 1) with h | ⟨n, x, h, hx⟩
      · exact .inl (by simpa using h)
      · refine .inr ⟨n + 1, x, ?_, by simpa using hx⟩
        have : i + 1 + n = i + (n + 1) := by omega
        rw [← this]; simpa using h
theorem eqIntS_len (xs : List Int) (h : xs.length < lim) : eqIntS xs xs = some true := by
  unfold eqIntS
  have e : ((xs.length : Int) != (xs.length : Int)) = false := by simp
  rw [e, cond_false]
  exact eqLoop (fun e e' => some (e == e')) xs (fun _ _ => by simp) h

/-! ChangedVersions -/
def cvStep (bs : List GCell) (s : List Int) (c : GCell) : List Int :=
  bif decide (firstAt (fun d => d.id == c.id) bs 0 ≥ 0) then
    match idx bs (firstAt (fun d => d.id == c.id) bs 0) with
    | some d => bif (d.version != c.version) then s ++ [c.id] else s
    | none => s
  else s
theorem cvStep_len (bs : List GCell) (s : List Int) (c : GCell) : (cvStep bs s c).length ≤ s.length + 1 := by
  unfold cvStep
  cases decide (firstAt (fun d => d.id == c.id) bs 0 ≥ 0) with
  | false => simp
  | true =>
    simp only [cond_true]
    split
    · rename_i d _
      cases (d.version != c.version) <;> simp
    · simp
theorem changedVersions_eq (a b : GNotebook) (ha : (a.cells.length : Int) ≤ 1048576) (hb : (b.cells.length : Int) ≤ 1048576) :
    ∃ w, sChangedVersions a b = some w ∧ iChangedVersions a b = some w ∧ (w.length : Int) ≤ 1048576 := by
  have hbl : b.cells.length < lim := lim20 hb
  have hal : a.cells.length < lim := lim20 ha
  have hall : a.cells.length < 4611686018427387904 := hal
  let w := a.cells.foldl (cvStep b.cells) []
  have hs := loop_foldI (g := fun (x1 : (List GCell) × (List GCell) × (List Int) × Int) =>
    bif (decide (x1.2.2.2 < (x1.1.length : Int))) then
      (idx x1.1 x1.2.2.2).bind fun e2 =>
      (sCellIndex (GNotebook.mk x1.2.1) e2.id).bind fun r3 =>
      bif (decide (r3 ≥ 0)) then
        (idx x1.2.1 r3).bind fun e4 =>
        (idx x1.1 x1.2.2.2).bind fun e5 =>
        bif (e4.version != e5.version) then
          (idx x1.1 x1.2.2.2).bind fun e6 =>
          (gd (x1.2.2.1.length + [e6.id].length)).bind fun _ =>
          some (.inl (x1.1, x1.2.1, x1.2.2.1 ++ [e6.id], w64 (x1.2.2.2 + 1)))
        else
          some (.inl (x1.1, x1.2.1, x1.2.2.1, w64 (x1.2.2.2 + 1)))
      else
        some (.inl (x1.1, x1.2.1, x1.2.2.1, w64 (x1.2.2.2 + 1)))
    else
      some (.inr (x1.2.2.1))) (fun (s : List Int) (i : Nat) => (a.cells, b.cells, s, (i : Int))) a.cells (cvStep b.cells) id (fun i s => s.length ≤ i)
    (fun i x s _ hi => Nat.le_trans (cvStep_len _ _ _) (by omega)) (fun i x s hx hi => ?_) (fun s _ => by simp) [] (by simp)
  have hi := loop_foldI (g := fun (x1 : (List GCell) × (List Int) × (List GCell) × Int × Int) =>
    bif (decide (x1.2.2.2.2 < x1.2.2.2.1)) then
      (idx x1.2.2.1 x1.2.2.2.2).bind fun e2 =>
      (iCellIndex (GNotebook.mk x1.1) e2.id).bind fun r3 =>
      bif (decide (r3 ≥ 0)) then
        (idx x1.1 r3).bind fun e4 =>
        bif (e4.version != e2.version) then
          (gd (x1.2.1.length + [e2.id].length)).bind fun _ =>
          some (.inl (x1.1, x1.2.1 ++ [e2.id], x1.2.2.1, x1.2.2.2.1, w64 (x1.2.2.2.2 + 1)))
        else
          some (.inl (x1.1, x1.2.1, x1.2.2.1, x1.2.2.2.1, w64 (x1.2.2.2.2 + 1)))
      else
        some (.inl (x1.1, x1.2.1, x1.2.2.1, x1.2.2.2.1, w64 (x1.2.2.2.2 + 1)))
    else
      some (.inr (x1.2.1))) (fun (s : List Int) (i : Nat) => (b.cells, s, a.cells, (a.cells.length : Int), (i : Int))) a.cells (cvStep b.cells) id (fun i s => s.length ≤ i)
    (fun i x s _ hi => Nat.le_trans (cvStep_len _ _ _) (by omega)) (fun i x s hx hi => ?_) (fun s _ => by simp) [] (by simp)
  · refine ⟨w, hs.1, hi.1, ?_⟩
    have : w.length ≤ a.cells.length := hs.2
    omega
  · have hil := (List.getElem?_eq_some_iff.1 hx).1
    have hw := w_succ hx hall
    have hg : gd (s.length + [x.id].length) = some () := gd_ok (by simp; omega)
    simp only [dec_lt hx, cond_true, idx_nat, hx, Option.bind_some, iCellIndex_ok (GNotebook.mk b.cells) x.id hbl, hw, cvStep, hg]
    rcases firstAt_idx (fun d : GCell => d.id == x.id) b.cells 0 with h | ⟨n, d, h, hd⟩
    · rw [h]; simp
    · rw [h, Nat.zero_add]
      simp only [show decide (((n : Nat) : Int) ≥ 0) = true by simp, cond_true, idx_nat, hd, Option.bind_some]
      cases (d.version != x.version) <;> simp
  · have hil := (List.getElem?_eq_some_iff.1 hx).1
    have hw := w_succ hx hall
    have hg : gd (s.length + [x.id].length) = some () := gd_ok (by simp; omega)
    simp only [dec_lt hx, cond_true, idx_nat, hx, Option.bind_some, sCellIndex_ok (GNotebook.mk b.cells) x.id hbl, hw, cvStep, hg]
    rcases firstAt_idx (fun d : GCell => d.id == x.id) b.cells 0 with h | ⟨n, d, h, hd⟩
    · rw [h]; simp
    · rw [h, Nat.zero_add]
      simp only [show decide (((n : Nat) : Int) ≥ 0) = true by simp, cond_true, idx_nat, hd, Option.bind_some]
      cases (d.version != x.version) <;> simp

theorem ints_ok {w : List Int} (h : (w.length : Int) ≤ 16777216) : OkIntS w ∧ cntIntS w ≤ 16777216 := by
  refine ⟨by unfold OkIntS; omega, ?_⟩
  have := sum_le (fun _ => 1) w 1 (fun _ _ => Nat.le_refl 1)
  unfold cntIntS; omega
theorem law_FnExactChangedVersions (a b : GNotebook) (ha : Fit B47 (.base .notebook) a) (hb : Fit B47 (.base .notebook) b) : FnExactChangedVersions a b = some true := by
  refine law1 (szNotebook_ok a ha) _ (by omega) (by omega) fun pa r1 h0 h1 => ?_
  refine law1 (szNotebook_ok b hb) _ (by omega) (by omega) fun pb r2 h2 h3 => ?_
  have fa := pa; rw [fit_notebook] at fa
  have fb := pb; rw [fit_notebook] at fb
  obtain ⟨w, hs, hi, hw⟩ := changedVersions_eq a b (list20 fa) (list20 fb)
  obtain ⟨oa, na⟩ := okNotebook24 (pa.mono le24)
  obtain ⟨ob, nb⟩ := okNotebook24 (pb.mono le24)
  obtain ⟨ow, nw⟩ := ints_ok (w := w) (by omega)
  obtain ⟨y1, e1, _⟩ := markNotebook_ok a oa 1 (by omega) (by omega)
  obtain ⟨y2, e2, _⟩ := markNotebook_ok b ob (1 + (cntNotebook a : Nat)) (by omega) (by omega)
  obtain ⟨y3, e3, e4⟩ := markIntS_ok w ow 1 (by omega) (by omega)
  have heq := eqIntS_len w (lim20 hw)
  simp only [toNotebook_ok a pa, toNotebook_ok b pb, hs, hi, heq, eqNotebook_ok a pa, eqNotebook_ok b pb, e1, e2, e3, e4, Option.bind_some, Bool.not_true, cond_false,
    decide_eq_false (show ¬ (1 + (cntNotebook a : Nat) + (cntNotebook b : Nat) : Int) < 0 by omega), decide_eq_false (show ¬ (1 + (cntIntS w : Nat) : Int) < 0 by omega), bne_self_i]

/-! NewHistory -/
theorem newHistory_eq (a : GNotebook) (h : Fit B20 (.base .notebook) a) : ∃ w b, sNewHistory a = some (w, b) ∧ iNewHistory a = some (w, b) ∧ Fit B20 (.base .history) w := by
  obtain ⟨v, hi, hs⟩ := validNotebook_eq a h
  have fa := h; rw [fit_notebook] at fa
  have hl := list20 fa
  have hg : gd (0 + a.cells.length) = some () := gd_ok (by omega)
  have hc : iCopyNotebook a = some a := by unfold iCopyNotebook; rw [hg]; rfl
  have hc' : sL17Copy a = some a := by unfold sL17Copy; rw [hg]; rfl
  have nil_fit : ∀ {t : Ty}, FitD B20 (.list t []) := fun {t} => mkList20 (by simp) fun x hx => by cases hx
  have int_fit : ∀ {n : Int}, (Lit.int .i64 n).wf = true → FitD B20 (.int .i64 n) := fun h => .int .i64 _ h
  unfold sNewHistory iNewHistory
  rw [hi, hs]
  cases v with
  | false =>
    refine ⟨_, _, rfl, rfl, ?_⟩
    rw [fit_history]
    exact ⟨by rw [fit_notebook]; exact nil_fit, nil_fit, int_fit (by decide)⟩
  | true =>
    simp only [Option.bind_some, Bool.not_true, cond_false, hc, hc']
    refine ⟨_, _, rfl, rfl, ?_⟩
    rw [fit_history]
    refine ⟨h, mkList20 (by simp) fun x hx => ?_, int_fit (n := 0) (by decide)⟩
    simp only [List.mem_singleton] at hx
    subst hx
    rw [fit_node]
    exact ⟨int_fit (by decide), nil_fit, nil_fit⟩
theorem hist_mk {x y : GHistory} (h : y.pos = x.pos) : GHistory.mk y.notebook y.nodes x.pos = y := by rw [← h]
theorem law_FnExactNewHistory (a : GNotebook) (ha : Fit B47 (.base .notebook) a) : FnExactNewHistory a = some true := by
  refine law1 (szNotebook_ok a ha) _ (by omega) (by omega) fun pa r1 h0 h1 => ?_
  obtain ⟨w, b, hs, hi, hw⟩ := newHistory_eq a pa
  obtain ⟨oa, na⟩ := okNotebook24 (pa.mono le24)
  obtain ⟨ow, nw⟩ := okHistory24 (hw.mono le24)
  obtain ⟨y1, e1, _⟩ := markNotebook_ok a oa 1 (by omega) (by omega)
  obtain ⟨y3, e3, e4, e5⟩ := markHistory_ok w ow 1 (by omega) (by omega)
  simp only [toNotebook_ok a pa, hs, hi, eqHistory_ok w hw, eqNotebook_ok a pa, e1, e3, hist_mk e5, e4, Option.bind_some, Bool.not_true, cond_false, beq_self_eq_true,
    decide_eq_false (show ¬ (1 + (cntNotebook a : Nat) : Int) < 0 by omega), decide_eq_false (show ¬ (1 + (cntHistory w : Nat) : Int) < 0 by omega), bne_self_i]
end Go.Proofs.Ytiedhibpaooldaa
