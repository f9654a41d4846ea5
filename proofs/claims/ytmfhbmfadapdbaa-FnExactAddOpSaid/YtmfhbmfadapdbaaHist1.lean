/- Plain laws: inverse edits and batches, copies and steps of histories; both sides alike. -/
import Derived.Test.YtmfhbmfadapdbaaLawsG
set_option linter.unusedSimpArgs false
set_option linter.unusedVariables false
namespace Go.Proofs.Ytmfhbmfadapdbaa
open Go.Abs Go.Proofs

theorem copyEditsI (b : List GEdit) (h : (b.length : Int) ≤ 16777216) : iCopyEdits b = some b := by
  unfold iCopyEdits; rw [gd_ok (by omega)]; rfl
theorem copyEditsS (b : List GEdit) (h : (b.length : Int) ≤ 16777216) : sL40Edits b = some b := by
  unfold sL40Edits; rw [gd_ok (by omega)]; rfl
theorem foldl_snoc {α : Type} : ∀ (xs acc : List α), xs.foldl (fun s x => s ++ [x]) acc = acc ++ xs
  | [], acc => by simp
  | x :: xs, acc => by rw [List.foldl_cons, foldl_snoc xs]; simp
theorem node_fit {a : GHistory} (h : Fit B20 (.base .history) a) {x : GNode} (hx : x ∈ a.nodes) : FitD B20 (.int .i64 x.parent) ∧ FitD B20 (.list (.base .edit) x.edits) ∧ FitD B20 (.list (.base .edit) x.undo) := by
  rw [fit_history] at h
  have := h.2.1.list_mem x hx
  rw [fit_node] at this
  exact this
theorem copyHistI (a : GHistory) (h : Fit B20 (.base .history) a) : iCopyHistory a = some a := by
  have pf := h; rw [fit_history] at pf
  have hl := list20 pf.2.1
  have hll : a.nodes.length < 4611686018427387904 := by omega
  unfold iCopyHistory
  rw [copyI a.notebook (by have := nb_len pf.1; omega), Option.bind_some]
  refine (loop_foldI (fun (s : List GNode) (i : Nat) => (([], [], 0, a.notebook.cells, s, a.pos, a.nodes, (a.nodes.length : Int), (i : Int)) : (List GCell) × (List GNode) × Int × (List GCell) × (List GNode) × Int × (List GNode) × Int × Int)) a.nodes
    (fun s x => s ++ [x]) (fun s => GHistory.mk (GNotebook.mk a.notebook.cells) s a.pos) (fun i s => s.length = i) (fun i x s _ hi => by simp [hi]) (fun i x s hx hi => ?_) (fun s _ => ?_) [] rfl).1.trans ?_
  · have hf := node_fit h (List.mem_of_getElem? hx)
    have hil := (List.getElem?_eq_some_iff.1 hx).1
    have hg : gd (s.length + [GNode.mk x.parent x.edits x.undo].length) = some () := gd_ok (by simp; omega)
    simp only [dec_lt hx, cond_true, idx_nat, hx, Option.bind_some, copyEditsI x.edits (by have := list20 hf.2.1; omega), copyEditsI x.undo (by have := list20 hf.2.2; omega), hg, w_succ hx hll]
  · simp only [Int.lt_irrefl, decide_false, cond_false]
  · rw [foldl_snoc, List.nil_append]
theorem copyHistS (a : GHistory) (h : Fit B20 (.base .history) a) : sL40Copy a = some a := by
  have pf := h; rw [fit_history] at pf
  have hl := list20 pf.2.1
  have hll : a.nodes.length < 4611686018427387904 := by omega
  unfold sL40Copy
  rw [copyS a.notebook (by have := nb_len pf.1; omega), Option.bind_some]
  refine (loop_foldI (fun (s : List GNode) (i : Nat) => ((a.notebook.cells, a.nodes, a.pos, [], [], 0, a.notebook.cells, s, a.pos, (i : Int)) : (List GCell) × (List GNode) × Int × (List GCell) × (List GNode) × Int × (List GCell) × (List GNode) × Int × Int)) a.nodes
    (fun s x => s ++ [x]) (fun s => GHistory.mk (GNotebook.mk a.notebook.cells) s a.pos) (fun i s => s.length = i) (fun i x s _ hi => by simp [hi]) (fun i x s hx hi => ?_) (fun s _ => ?_) [] rfl).1.trans ?_
  · have hf := node_fit h (List.mem_of_getElem? hx)
    have hil := (List.getElem?_eq_some_iff.1 hx).1
    have hg : gd (s.length + [GNode.mk x.parent x.edits x.undo].length) = some () := gd_ok (by simp; omega)
    simp only [dec_lt hx, cond_true, idx_nat, hx, Option.bind_some, copyEditsS x.edits (by have := list20 hf.2.1; omega), copyEditsS x.undo (by have := list20 hf.2.2; omega), hg, w_succ hx hll]
  · simp only [Int.lt_irrefl, decide_false, cond_false]
  · rw [foldl_snoc, List.nil_append]

/-! inverse edits -/
theorem applyEdit_zero {a : GNotebook} {b : GEdit} {w : GNotebook} (ha : Fit B20 (.base .notebook) a) (h : sApplyEdit a b = some (w, 0)) :
    (1 ≤ b.kind ∧ b.kind ≤ 6) ∧ (b.kind ≠ 1 → ∃ (m : Nat) (x : GCell), firstAt (fun c => c.id == b.cell.id) a.cells 0 = (m : Int) ∧ a.cells[m]? = some x) := by
  obtain ⟨v, hvi, hvs⟩ := validNotebook_eq a ha
  have hl := nb_len ha
  have hll : a.cells.length < lim := lim20 hl
  unfold sApplyEdit at h
  rw [hvs, copyS a (by omega)] at h
  simp only [Option.bind_some, sL1In_ok, sCellIndex_ok a _ hll] at h
  cases v with
  | false => simp at h
  | true =>
    simp only [Bool.not_true, cond_false] at h
    cases hk : (decide (1 ≤ b.kind) && decide (b.kind ≤ 6)) with
    | false => rw [hk] at h; simp at h
    | true =>
      rw [hk] at h
      simp only [Bool.and_eq_true, decide_eq_true_eq] at hk
      refine ⟨hk, fun hk1 => ?_⟩
      have k1' : (b.kind == 1) = false := by simpa using hk1
      simp only [Bool.not_true, cond_false, k1'] at h
      rcases firstAt_idx (fun c : GCell => c.id == b.cell.id) a.cells 0 with hj | ⟨n, x, hj, hx⟩
      · rw [hj] at h
        simp at h
      · exact ⟨n, x, by rw [hj, Nat.zero_add], hx⟩
theorem int0 {n : Int} (h : (Lit.int .i64 n).wf = true) : FitD B20 (.int .i64 n) := .int .i64 _ h
theorem wf_small {n : Int} (h0 : -1000000000 ≤ n) (h1 : n ≤ 1000000000) : (Lit.int .i64 n).wf = true := by
  unfold Lit.wf
  simp [IntKind.bits, IntKind.signed, IntKind.min, IntKind.max]
  omega
theorem nilStr : FitD B20 (.str []) := mkStr20 (by simp)
theorem cell_bare {id : Int} (h : FitD B20 (.int .i64 id)) {nm cd : Str} {n : Int} (h1 : FitD B20 (.str nm)) (h2 : FitD B20 (.str cd)) (h3 : FitD B20 (.int .i64 n)) : Fit B20 (.base .cell) (GCell.mk id 0 0 nm cd n) := by
  rw [fit_cell]
  exact ⟨h, int0 (wf_small (n := 0) (by omega) (by omega)), int0 (wf_small (n := 0) (by omega) (by omega)), h1, h2, h3⟩
theorem mk_edit {k p : Int} {c : GCell} (h1 : FitD B20 (.int .i64 k)) (h2 : FitD B20 (.int .i64 p)) (h3 : Fit B20 (.base .cell) c) : Fit B20 (.base .edit) (GEdit.mk k p c) := by
  rw [fit_edit]; exact ⟨h1, h2, h3⟩
theorem inverseEdit_eq (a : GNotebook) (b : GEdit) (ha : Fit B20 (.base .notebook) a) (hb : Fit B20 (.base .edit) b) :
    ∃ x ok w n, sInverseEdit a b = some (x, ok) ∧ iInverseEdit a b = some (x, ok) ∧ sApplyEdit a b = some (w, n) ∧ iApplyEdit a b = some (w, n) ∧ Fit B20 (.base .notebook) w ∧ Fit B20 (.base .edit) x ∧ (ok = true ↔ n = 0) := by
  obtain ⟨w, n, e1, e2, hw⟩ := applyEdit_eq a b ha hb
  have hl := nb_len ha
  have hll : a.cells.length < lim := lim20 hl
  have fb := hb; rw [fit_edit] at fb
  have fc := fb.2.2; rw [fit_cell] at fc
  have z0 : FitD B20 (.int .i64 0) := int0 (wf_small (by omega) (by omega))
  have sm : ∀ k : Int, 0 ≤ k → k ≤ 6 → FitD B20 (.int .i64 k) := fun k h1 h2 => int0 (wf_small (by omega) (by omega))
  unfold sInverseEdit iInverseEdit
  rw [e1, e2]
  simp only [Option.bind_some]
  by_cases hn : n = 0
  · subst hn
    obtain ⟨⟨hk1, hk6⟩, hidx⟩ := applyEdit_zero ha e1
    simp only [bne_self_i, cond_false, iCellIndex_ok a _ hll, sCellIndex_ok a _ hll, Option.bind_some]
    by_cases k1 : b.kind = 1
    · simp only [k1, beq_self_eq_true, cond_true]
      exact ⟨_, true, w, 0, rfl, rfl, rfl, rfl, hw, mk_edit (sm 2 (by omega) (by omega)) z0 (cell_bare fc.1 nilStr nilStr z0), by simp⟩
    · obtain ⟨m, x, hm, hx⟩ := hidx k1
      have hml := (List.getElem?_eq_some_iff.1 hx).1
      have hxm : Fit B20 (.base .cell) x := by
        have fa := ha; rw [fit_notebook] at fa
        exact fa.list_mem x (List.mem_of_getElem? hx)
      have fx := hxm; rw [fit_cell] at fx
      have hmi : FitD B20 (.int .i64 (m : Int)) := int0 (wf_small (by omega) (by omega))
      have k1' : (b.kind == 1) = false := by simpa using k1
      simp only [k1', cond_false, hm, idx_nat, hx, Option.bind_some]
      by_cases k2 : b.kind = 2
      · simp only [k2, beq_self_eq_true, cond_true]
        exact ⟨_, true, w, 0, rfl, rfl, rfl, rfl, hw, mk_edit (sm 1 (by omega) (by omega)) hmi hxm, by simp⟩
      have k2' : (b.kind == 2) = false := by simpa using k2
      by_cases k3 : b.kind = 3
      · simp only [k2', cond_false, k3, beq_self_eq_true, cond_true, show ((3 : Int) == 2) = false from rfl]
        exact ⟨_, true, w, 0, rfl, rfl, rfl, rfl, hw, mk_edit (sm 3 (by omega) (by omega)) hmi (cell_bare fc.1 nilStr nilStr z0), by simp⟩
      have k3' : (b.kind == 3) = false := by simpa using k3
      by_cases k4 : b.kind = 4
      · simp only [k4, beq_self_eq_true, cond_true, cond_false, show ((4 : Int) == 2) = false from rfl, show ((4 : Int) == 3) = false from rfl]
        exact ⟨_, true, w, 0, rfl, rfl, rfl, rfl, hw, mk_edit (sm 4 (by omega) (by omega)) z0 (cell_bare fc.1 fx.2.2.2.1 fx.2.2.2.2.1 z0), by simp⟩
      have k4' : (b.kind == 4) = false := by simpa using k4
      by_cases k5 : b.kind = 5
      · simp only [k5, beq_self_eq_true, cond_true, cond_false, show ((5 : Int) == 2) = false from rfl, show ((5 : Int) == 3) = false from rfl, show ((5 : Int) == 4) = false from rfl]
        exact ⟨_, true, w, 0, rfl, rfl, rfl, rfl, hw, mk_edit (sm 5 (by omega) (by omega)) z0 (cell_bare fc.1 nilStr nilStr fx.2.2.2.2.2), by simp⟩
      have k6 : b.kind = 6 := by omega
      simp only [k6, cond_false, show ((6 : Int) == 2) = false from rfl, show ((6 : Int) == 3) = false from rfl, show ((6 : Int) == 4) = false from rfl, show ((6 : Int) == 5) = false from rfl]
      exact ⟨_, true, w, 0, rfl, rfl, rfl, rfl, hw, mk_edit (sm 6 (by omega) (by omega)) z0 (cell_bare fc.1 nilStr nilStr z0), by simp⟩
  · have hn' : (n != 0) = true := by simpa using hn
    simp only [hn', cond_true]
    exact ⟨_, false, w, n, rfl, rfl, rfl, rfl, hw, mk_edit z0 z0 (cell_bare z0 nilStr nilStr z0), by simp [hn]⟩

/-! batches -/
theorem loop_three {α σ ρ ρ' X Y Z : Type} {g1 : X → Option (X ⊕ ρ)} {g2 : Y → Option (Y ⊕ ρ)} {g3 : Z → Option (Z ⊕ ρ')} (pk1 : σ → Nat → X) (pk2 : σ → Nat → Y) (pk3 : σ → Nat → Z) (xs : List α) (I : Nat → σ → Prop) (R : ρ → ρ' → Prop)
    (hs : ∀ i x s, xs[i]? = some x → I i s → (∃ s', g1 (pk1 s i) = some (.inl (pk1 s' (i + 1))) ∧ g2 (pk2 s i) = some (.inl (pk2 s' (i + 1))) ∧ g3 (pk3 s i) = some (.inl (pk3 s' (i + 1))) ∧ I (i + 1) s') ∨
      ∃ r r', g1 (pk1 s i) = some (.inr r) ∧ g2 (pk2 s i) = some (.inr r) ∧ g3 (pk3 s i) = some (.inr r') ∧ R r r')
    (he : ∀ s, I xs.length s → ∃ r r', g1 (pk1 s xs.length) = some (.inr r) ∧ g2 (pk2 s xs.length) = some (.inr r) ∧ g3 (pk3 s xs.length) = some (.inr r') ∧ R r r') (s : σ) (h0 : I 0 s) :
    ∃ r r', loopD g1 (pk1 s 0) = some r ∧ loopD g2 (pk2 s 0) = some r ∧ loopD g3 (pk3 s 0) = some r' ∧ R r r' := by
  have key : ∀ (n i : Nat) (s : σ), xs.length = i + n → I i s → ∃ r r', loopD g1 (pk1 s i) = some r ∧ loopD g2 (pk2 s i) = some r ∧ loopD g3 (pk3 s i) = some r' ∧ R r r' := by
    intro n
    induction n with
    | zero =>
      intro i s hi hI
      have : i = xs.length := by omega
      subst this
      obtain ⟨r, r', e1, e2, e3, hR⟩ := he s hI
      refine ⟨r, r', ?_, ?_, ?_, hR⟩
      · rw [loopD_eq, e1]
      · rw [loopD_eq, e2]
      · rw [loopD_eq, e3]
    | succ n ih =>
      intro i s hi hI
      have hlt : i < xs.length := by omega
      rcases hs i xs[i] s (List.getElem?_eq_getElem hlt) hI with ⟨s', e1, e2, e3, hI'⟩ | ⟨r, r', e1, e2, e3, hR⟩
      · obtain ⟨r, r', q1, q2, q3, hR⟩ := ih (i + 1) s' (by omega) hI'
        refine ⟨r, r', ?_, ?_, ?_, hR⟩
        · rw [loopD_eq, e1]; exact q1
        · rw [loopD_eq, e2]; exact q2
        · rw [loopD_eq, e3]; exact q3
      · refine ⟨r, r', ?_, ?_, ?_, hR⟩
        · rw [loopD_eq, e1]
        · rw [loopD_eq, e2]
        · rw [loopD_eq, e3]
  exact key xs.length 0 s (by omega) h0
theorem edits_nil : FitD B20 (.list (.base .edit) []) := mkList20 (by simp) fun x hx => by cases hx
theorem inverseBatch_eq (a : GNotebook) (b : List GEdit) (ha : Fit B20 (.base .notebook) a) (hb : FitD B20 (.list (.base .edit) b)) :
    ∃ (r : List GEdit × Bool) (r' : GNotebook × Int), sInverseBatch a b = some r ∧ iInverseBatch a b = some r ∧ sApplyBatch a b = some r' ∧ FitD B20 (.list (.base .edit) r.1) ∧ (r.2 = true ↔ r'.2 < 0) := by
  have hl := nb_len ha
  have hbl := list20 hb
  have hll : b.length < 4611686018427387904 := by omega
  unfold sInverseBatch iInverseBatch sApplyBatch
  rw [copyS a (by omega)]
  simp only [Option.bind_some]
  refine loop_three (fun (s : List GEdit × List GCell) (i : Nat) => (b, s.1, s.2, (i : Int))) (fun (s : List GEdit × List GCell) (i : Nat) => (s.2, s.1, b, (b.length : Int), (i : Int))) (fun (s : List GEdit × List GCell) (i : Nat) => (b, a.cells, [], s.2, (i : Int))) b
    (fun i s => Fit B20 (.base .notebook) (GNotebook.mk s.2) ∧ s.1.length = i ∧ ∀ x, x ∈ s.1 → Fit B20 (.base .edit) x) (fun (r : List GEdit × Bool) (r' : GNotebook × Int) => FitD B20 (.list (.base .edit) r.1) ∧ (r.2 = true ↔ r'.2 < 0)) (fun i x s hx hI => ?_) (fun s hI => ?_) ([], a.cells) ⟨ha, rfl, fun x hx => by cases hx⟩
  · obtain ⟨hI1, hI2, hI3⟩ := hI
    have hil := (List.getElem?_eq_some_iff.1 hx).1
    obtain ⟨y, ok, w, n, q1, q2, q3, q4, q5, q6, q7⟩ := inverseEdit_eq (GNotebook.mk s.2) x hI1 (hb.list_mem x (List.mem_of_getElem? hx))
    have hg : gd ([y].length + s.1.length) = some () := gd_ok (by simp; omega)
    simp only [dec_lt hx, cond_true, idx_nat, hx, Option.bind_some, q1, q2, q3, q4, w_succ hx hll, hg]
    cases ok with
    | true =>
      have hn : n = 0 := q7.1 rfl
      subst hn
      refine .inl ⟨([y] ++ s.1, w.cells), ?_, ?_, ?_, q5, by simp; omega, fun z hz => ?_⟩
      · simp only [Bool.not_true, cond_false]
      · simp only [Bool.not_true, cond_false]
      · simp only [bne_self_i, cond_false]
      · rcases List.mem_append.1 hz with hz | hz
        · simp at hz; subst hz; exact q6
        · exact hI3 z hz
    | false =>
      have hn : n ≠ 0 := fun e => by have := q7.2 e; cases this
      have hn' : (n != 0) = true := by simpa using hn
      refine .inr ⟨([], false), (a, (i : Int)), ?_, ?_, ?_, edits_nil, ?_⟩
      · simp only [Bool.not_false, cond_true]
      · simp only [Bool.not_false, cond_true]
      · simp only [hn', cond_true, copyS (GNotebook.mk a.cells) (show (a.cells.length : Int) ≤ _ by omega), Option.bind_some]
      · simp
  · obtain ⟨hI1, hI2, hI3⟩ := hI
    simp only [Int.lt_irrefl, decide_false, cond_false]
    exact ⟨_, _, rfl, rfl, rfl, mkList20 (show (s.1.length : Int) ≤ 1048576 by omega) hI3, by simp⟩
theorem law_FnExactInverseBatch (a : GNotebook) (b : List GEdit) (ha : Fit B47 (.base .notebook) a) (hb : FitD B47 (.list (.base .edit) b)) : FnExactInverseBatch a b = some true := by
  refine law1 (szNotebook_ok a ha) _ (by omega) (by omega) fun pa r1 h0 h1 => ?_
  refine law1 (szEditS_ok b hb) _ (by omega) (by omega) fun pb r2 h2 h3 => ?_
  obtain ⟨⟨w, n⟩, r', hs, hi, _, hw, _⟩ := inverseBatch_eq a b pa pb
  have hw : FitD B20 (.list (.base .edit) w) := hw
  obtain ⟨oa, na⟩ := okNotebook24 (pa.mono le24)
  obtain ⟨ob, nb⟩ := okEditS24 (pb.mono le24)
  obtain ⟨ow, nw⟩ := okEditS24 (xs := w) (hw.mono le24)
  obtain ⟨y1, e1, _⟩ := markNotebook_ok a oa 1 (by omega) (by omega)
  obtain ⟨y2, e2, _⟩ := markEditS_ok b ob (1 + (cntNotebook a : Nat)) (by omega) (by omega)
  obtain ⟨y3, e3, e4⟩ := markEditS_ok w ow 1 (by omega) (by omega)
  simp only [toNotebook_ok a pa, toEditS_ok b pb, hs, hi, eqEditS_ok w hw, eqNotebook_ok a pa, eqEditS_ok b pb, e1, e2, e3, e4, Option.bind_some, Bool.not_true, cond_false, beq_self_eq_true,
    decide_eq_false (show ¬ (1 + (cntNotebook a : Nat) + (cntEditS b : Nat) : Int) < 0 by omega), decide_eq_false (show ¬ (1 + (cntEditS w : Nat) : Int) < 0 by omega), bne_self_i]
end Go.Proofs.Ytmfhbmfadapdbaa
