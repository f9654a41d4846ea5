/- Plain laws: the pure form of an edit. Plain laws: the inverse of an edit brings the content back. Plain laws: the pure form of batches; a batch and its inverse. -/
import Derived.Test.YtmadjfnpidahnaaHist1
import Derived.Test.YtmadjfnpidahnaaExpr1
set_option linter.unusedSimpArgs false
set_option linter.unusedVariables false
namespace Go.Proofs.Ytmadjfnpidahnaa
open Go.Abs Go.Proofs

def ins {α : Type} (xs : List α) (n : Nat) (c : α) : List α := xs.take n ++ [c] ++ xs.drop n
def del {α : Type} (xs : List α) (n : Nat) : List α := xs.take n ++ xs.drop (n + 1)
def clampN (l : Nat) (p : Int) : Nat := min l p.toNat
theorem sL20Put_ok (a : List GCell) (b : Int) (c : GCell) (h : (a.length : Int) ≤ 1048576) : sL20Put a b c = some (ins a (clampN a.length b) c) := by
  have hn : clampN a.length b ≤ a.length := Nat.min_le_left _ _
  have e1 : ∃ m, sL1Min b (a.length : Int) = some m ∧ sL1Max 0 m = some (clampN a.length b : Int) := by
    unfold sL1Min sL1Max clampN
    by_cases q : b < (a.length : Int)
    · rw [decide_eq_true q, cond_true]
      refine ⟨b, rfl, ?_⟩
      by_cases q2 : (0 : Int) > b
      · rw [decide_eq_true q2, cond_true]; congr 1; omega
      · rw [decide_eq_false q2, cond_false]; congr 1; omega
    · rw [decide_eq_false q, cond_false]
      refine ⟨_, rfl, ?_⟩
      rw [decide_eq_false (by omega), cond_false]; congr 1; omega
  obtain ⟨m, e1, e2⟩ := e1
  have g1 : gd (0 + (a.take (clampN a.length b)).length) = some () := gd_ok (by simp; omega)
  have g2 : gd (([] ++ a.take (clampN a.length b)).length + [c].length) = some () := gd_ok (by simp; omega)
  have g3 : gd ((([] ++ a.take (clampN a.length b)) ++ [c]).length + (a.drop (clampN a.length b)).length) = some () := gd_ok (by simp; omega)
  unfold sL20Put
  simp only [e1, e2, Option.bind_some, cutL_to a _ hn, cutL_from a _ hn, g1, g2, g3]
  rfl
/-- a cell after an edit of itself, and the code -/
noncomputable def turnE (x : GCell) (b : GEdit) : GCell × Int :=
  if b.kind = 4 then
    if x.kind = 3 then (x, 5)
    else if x.version = 999 then (x, 6)
    else if cellB (GCell.mk x.id (x.version + 1) x.kind b.cell.name b.cell.code x.n) = true then (GCell.mk x.id (x.version + 1) x.kind b.cell.name b.cell.code x.n, 0) else (x, 1)
  else if b.kind = 5 then
    if x.kind = 3 then
      if cellB (GCell.mk x.id x.version x.kind x.name x.code b.cell.n) = true then (GCell.mk x.id x.version x.kind x.name x.code b.cell.n, 0) else (x, 1)
    else (x, 5)
  else if x.kind = 2 then
    if x.version = 999 then (x, 6)
    else if cellB (GCell.mk x.id (x.version + 1) x.kind x.name x.code x.n) = true then (GCell.mk x.id (x.version + 1) x.kind x.name x.code x.n, 0) else (x, 1)
  else (x, 5)
noncomputable def nbB (cs : List GCell) : Bool := (sIsValidNotebook (GNotebook.mk cs)).getD false
def atE (cs : List GCell) (id : Int) : Int := firstAt (fun c => c.id == id) cs 0
/-- what an edit does, when it finds its cell -/
noncomputable def onE (cs : List GCell) (b : GEdit) (n : Nat) (x : GCell) : List GCell × Int :=
  if b.kind = 2 then (del cs n, 0)
  else if b.kind = 3 then (ins (del cs n) (clampN (del cs n).length b.pos) x, 0)
  else if (turnE x b).2 = 0 then (cs.set n (turnE x b).1, 0) else (cs, (turnE x b).2)
noncomputable def apE (cs : List GCell) (b : GEdit) : List GCell × Int :=
  if nbB cs = true ∧ 1 ≤ b.kind ∧ b.kind ≤ 6 then
    if b.kind = 1 then
      if cellB b.cell = true then
        if 0 ≤ atE cs b.cell.id then (cs, 3) else if cs.length = 8 then (cs, 4) else (ins cs (clampN cs.length b.pos) b.cell, 0)
      else (cs, 1)
    else
      match cs[(atE cs b.cell.id).toNat]? with
      | some x => if atE cs b.cell.id < 0 then (cs, 2) else onE cs b (atE cs b.cell.id).toNat x
      | none => (cs, 2)
  else (cs, 1)
theorem cellB_some {c : GCell} (h : Fit B20 (.base .cell) c) : sIsValidCell c = some (cellB c) := by
  obtain ⟨b, h1, h2⟩ := validCell_eq c h
  unfold cellB; rw [h2]; rfl
theorem wf_succ {n : Int} (h0 : 1 ≤ n) (h1 : n ≤ 999) : FitD B20 (.int .i64 (n + 1)) := .int .i64 _ (by
  unfold Lit.wf
  simp [IntKind.bits, IntKind.signed, IntKind.min, IntKind.max]
  omega)
theorem sL20Cell_ok (x : GCell) (b : GEdit) (fx : Fit B20 (.base .cell) x) (fb : Fit B20 (.base .edit) b) (hk : b.kind = 4 ∨ b.kind = 5 ∨ b.kind = 6) (h0 : 1 ≤ x.version) (h1 : x.version ≤ 999) :
    ∃ r, sL20Cell x b = some r ∧ r.2 = (turnE x b).2 ∧ (r.2 = 0 → r = turnE x b) := by
  rw [fit_edit] at fb
  have fc := fb.2.2
  rw [fit_cell] at fc
  rw [fit_cell] at fx
  have hw : w64 (x.version + 1) = x.version + 1 := w64_id (by omega) (by omega)
  have wv := wf_succ h0 h1
  unfold sL20Cell turnE
  rw [hw]
  rcases hk with k | k | k
  · have f1 : Fit B20 (.base .cell) (GCell.mk x.id (x.version + 1) x.kind b.cell.name b.cell.code x.n) := by rw [fit_cell]; exact ⟨fx.1, wv, fx.2.2.1, fc.2.2.2.1, fc.2.2.2.2.1, fx.2.2.2.2.2⟩
    have e1 := cellB_some f1
    rw [k, if_pos rfl]
    simp only [beq_self_eq_true, cond_true, show ((4 : Int) != 5) = true from rfl, e1, Option.bind_some]
    by_cases q : x.kind = 3
    · rw [if_pos q, q]; exact ⟨_, rfl, rfl, fun h => by cases h⟩
    rw [if_neg q, show (x.kind == 3) = false by simpa using q, cond_false]
    by_cases q2 : x.version = 999
    · rw [if_pos q2, q2]; exact ⟨_, rfl, rfl, fun h => by cases h⟩
    rw [if_neg q2, show (x.version == 999) = false by simpa using q2, cond_false]
    cases cellB (GCell.mk x.id (x.version + 1) x.kind b.cell.name b.cell.code x.n) with
    | true => exact ⟨_, rfl, rfl, fun _ => rfl⟩
    | false => exact ⟨_, rfl, rfl, fun h => by cases h⟩
  · have f1 : Fit B20 (.base .cell) (GCell.mk x.id x.version x.kind x.name x.code b.cell.n) := by rw [fit_cell]; exact ⟨fx.1, fx.2.1, fx.2.2.1, fx.2.2.2.1, fx.2.2.2.2.1, fc.2.2.2.2.2⟩
    have e1 := cellB_some f1
    rw [k, if_neg (by decide), if_pos rfl]
    simp only [beq_self_eq_true, bne_self_i, show ((5 : Int) == 4) = false from rfl, cond_true, cond_false, e1, Option.bind_some]
    by_cases q : x.kind = 3
    · rw [if_pos q, show (x.kind != 3) = false by simpa using q, cond_false]
      cases cellB (GCell.mk x.id x.version x.kind x.name x.code b.cell.n) with
      | true => exact ⟨_, rfl, rfl, fun _ => rfl⟩
      | false => exact ⟨_, rfl, rfl, fun h => by cases h⟩
    · rw [if_neg q, show (x.kind != 3) = true by simpa using q, cond_true]; exact ⟨_, rfl, rfl, fun h => by cases h⟩
  · have f1 : Fit B20 (.base .cell) (GCell.mk x.id (x.version + 1) x.kind x.name x.code x.n) := by rw [fit_cell]; exact ⟨fx.1, wv, fx.2.2.1, fx.2.2.2.1, fx.2.2.2.2.1, fx.2.2.2.2.2⟩
    have e1 := cellB_some f1
    rw [k, if_neg (by decide), if_neg (by decide)]
    simp only [show ((6 : Int) == 4) = false from rfl, show ((6 : Int) == 5) = false from rfl, show ((6 : Int) != 5) = true from rfl, cond_true, cond_false, e1, Option.bind_some]
    by_cases q : x.kind = 2
    · rw [if_pos q, show (x.kind != 2) = false by simpa using q, cond_false]
      by_cases q2 : x.version = 999
      · rw [if_pos q2, q2]; exact ⟨_, rfl, rfl, fun h => by cases h⟩
      rw [if_neg q2, show (x.version == 999) = false by simpa using q2, cond_false]
      cases cellB (GCell.mk x.id (x.version + 1) x.kind x.name x.code x.n) with
      | true => exact ⟨_, rfl, rfl, fun _ => rfl⟩
      | false => exact ⟨_, rfl, rfl, fun h => by cases h⟩
    · rw [if_neg q, show (x.kind != 2) = true by simpa using q, cond_true]; exact ⟨_, rfl, rfl, fun h => by cases h⟩
theorem sApplyEdit_ok (a : GNotebook) (b : GEdit) (ha : Fit B20 (.base .notebook) a) (hb : Fit B20 (.base .edit) b) : sApplyEdit a b = some (GNotebook.mk (apE a.cells b).1, (apE a.cells b).2) := by
  obtain ⟨v, _, hvs⟩ := validNotebook_eq a ha
  have fa := ha; rw [fit_notebook] at fa
  have hl := list20 fa
  have hll : a.cells.length < lim := lim20 hl
  have hcm := fa.list_mem
  have fb := hb; rw [fit_edit] at fb
  have hnb : nbB a.cells = v := by unfold nbB; rw [show GNotebook.mk a.cells = a from rfl, hvs]; rfl
  unfold sApplyEdit apE
  rw [hvs, copyS a (by omega), hnb]
  simp only [Option.bind_some]
  cases v with
  | false => rw [if_neg (by simp)]; rfl
  | true =>
  obtain ⟨h8, hver⟩ := valid_small ha hvs
  simp only [Bool.not_true, cond_false, sL1In_ok, Option.bind_some]
  by_cases hk : 1 ≤ b.kind ∧ b.kind ≤ 6
  · rw [if_pos ⟨trivial, hk⟩, decide_eq_true hk.1, decide_eq_true hk.2]
    simp only [Bool.and_self, Bool.not_true, cond_false, sCellIndex_ok a _ hll, Option.bind_some, cellB_some fb.2.2]
    have hat : firstAt (fun c => c.id == b.cell.id) a.cells 0 = atE a.cells b.cell.id := rfl
    rw [hat]
    by_cases k1 : b.kind = 1
    · rw [if_pos k1]
      simp only [k1, beq_self_eq_true, cond_true]
      cases hc : cellB b.cell with
      | false => rfl
      | true =>
        simp only [Bool.not_true, cond_false, if_true]
        by_cases hj : 0 ≤ atE a.cells b.cell.id
        · rw [if_pos hj, decide_eq_true (show atE a.cells b.cell.id ≥ 0 from hj)]; rfl
        · rw [if_neg hj, decide_eq_false (show ¬ atE a.cells b.cell.id ≥ 0 from hj), cond_false]
          by_cases h8' : a.cells.length = 8
          · rw [if_pos h8', show ((a.cells.length : Int) == 8) = true by simp; omega]; rfl
          · rw [if_neg h8', show ((a.cells.length : Int) == 8) = false by simp; omega, cond_false, sL20Put_ok _ _ _ hl]; rfl
    · rw [if_neg k1, show (b.kind == 1) = false by simpa using k1]
      simp only [cond_false]
      rcases firstAt_idx (fun c : GCell => c.id == b.cell.id) a.cells 0 with hj | ⟨n, x, hj, hx⟩
      · have hj : atE a.cells b.cell.id = -1 := hj
        rw [hj, show decide ((-1 : Int) < 0) = true from rfl, cond_true]
        simp only [show (-1 : Int) < 0 from by decide, if_true]
        cases a.cells[(-1 : Int).toNat]? <;> rfl
      · have hj : atE a.cells b.cell.id = ((0 + n : Nat) : Int) := hj
        rw [hj, Nat.zero_add]
        have hn : n < a.cells.length := (List.getElem?_eq_some_iff.1 hx).1
        have hxm := hcm x (List.mem_of_getElem? hx)
        have hv := hver n x hx
        simp only [decide_eq_false (show ¬ ((n : Nat) : Int) < 0 by omega), if_neg (show ¬ ((n : Nat) : Int) < 0 by omega), cond_false, idx_nat, hx, Option.bind_some, Int.toNat_natCast]
        have dd : sL20Drop a.cells (n : Int) = some (del a.cells n) := (drop_eq a.cells n hn hl).1
        have dl : ((del a.cells n).length : Int) ≤ 1048576 := by unfold del; simp; omega
        unfold onE
        rw [dd]
        by_cases k2 : b.kind = 2
        · rw [if_pos k2, k2]; rfl
        rw [if_neg k2, show (b.kind == 2) = false by simpa using k2, cond_false]
        by_cases k3 : b.kind = 3
        · rw [if_pos k3, k3]
          simp only [beq_self_eq_true, cond_true, Option.bind_some, sL20Put_ok _ _ _ dl]
        rw [if_neg k3, show (b.kind == 3) = false by simpa using k3, cond_false]
        obtain ⟨r, e1, e2, e3⟩ := sL20Cell_ok x b hxm hb (by omega) hv.1 hv.2
        rw [e1, Option.bind_some]
        by_cases q : r.2 = 0
        · have := e3 q
          subst this
          rw [if_pos q, q]
          rfl
        · rw [if_neg (by rw [← e2]; exact q), show (r.2 == 0) = false by simpa using q, cond_false, e2]
  · have hkb : (decide (1 ≤ b.kind) && decide (b.kind ≤ 6)) = false := by
      rw [Bool.eq_false_iff]; intro h; rw [Bool.and_eq_true, decide_eq_true_eq, decide_eq_true_eq] at h; exact hk h
    rw [if_neg fun h => hk h.2, hkb]
    rfl

/-! lists -/
theorem map_ins {α β : Type} (f : α → β) (xs : List α) (n : Nat) (c : α) : (ins xs n c).map f = ins (xs.map f) n (f c) := by
  unfold ins; simp [List.map_take, List.map_drop]
theorem map_del {α β : Type} (f : α → β) (xs : List α) (n : Nat) : (del xs n).map f = del (xs.map f) n := by
  unfold del; simp [List.map_take, List.map_drop]
theorem len_ins {α : Type} (xs : List α) (n : Nat) (c : α) (h : n ≤ xs.length) : (ins xs n c).length = xs.length + 1 := by
  unfold ins; simp; omega
theorem len_del {α : Type} (xs : List α) (n : Nat) (h : n < xs.length) : (del xs n).length + 1 = xs.length := by
  unfold del; simp; omega
theorem del_ins {α : Type} (xs : List α) (n : Nat) (c : α) (h : n ≤ xs.length) : del (ins xs n c) n = xs := by
  unfold del ins
  have e1 : (xs.take n ++ [c] ++ xs.drop n).take n = xs.take n := by
    rw [List.append_assoc]; exact List.take_left' (by simp; omega)
  have e2 : (xs.take n ++ [c] ++ xs.drop n).drop (n + 1) = xs.drop n := List.drop_left' (by simp; omega)
  rw [e1, e2, List.take_append_drop]
theorem get_ins {α : Type} (xs : List α) (n : Nat) (c : α) (h : n ≤ xs.length) : (ins xs n c)[n]? = some c := by
  unfold ins
  rw [List.append_assoc, List.getElem?_append_right (by simp; omega)]
  simp [show min n xs.length = n by omega]
theorem ins_del {α : Type} (xs : List α) (n : Nat) (x : α) (h : xs[n]? = some x) : ins (del xs n) n x = xs := by
  obtain ⟨hn, rfl⟩ := List.getElem?_eq_some_iff.1 h
  unfold del ins
  have e1 : (xs.take n ++ xs.drop (n + 1)).take n = xs.take n := List.take_left' (by simp; omega)
  have e2 : (xs.take n ++ xs.drop (n + 1)).drop n = xs.drop (n + 1) := List.drop_left' (by simp; omega)
  rw [e1, e2, List.append_assoc, List.singleton_append, ← List.drop_eq_getElem_cons hn, List.take_append_drop]
theorem ins_perm {α : Type} (xs : List α) (n : Nat) (c : α) : (ins xs n c).Perm (c :: xs) := by
  unfold ins
  have := @List.perm_middle _ c (xs.take n) (xs.drop n)
  rw [List.take_append_drop] at this
  rw [List.append_assoc]; exact this
theorem mem_ins {α : Type} {xs : List α} {n : Nat} {c y : α} (h : y ∈ ins xs n c) : y = c ∨ y ∈ xs := List.mem_cons.1 ((ins_perm xs n c).mem_iff.1 h)
theorem mem_del {α : Type} {xs : List α} {n : Nat} {y : α} (h : y ∈ del xs n) : y ∈ xs := by
  rcases List.mem_append.1 h with h | h
  · exact List.mem_of_mem_take h
  · exact List.mem_of_mem_drop h
theorem nodup_ins {α : Type} (xs : List α) (n : Nat) (c : α) : (ins xs n c).Nodup ↔ ¬ c ∈ xs ∧ xs.Nodup := by
  rw [(ins_perm xs n c).nodup_iff, List.nodup_cons]
theorem nodup_del {α : Type} {xs : List α} (n : Nat) (h : xs.Nodup) : (del xs n).Nodup := by
  refine List.Sublist.nodup (l₂ := xs) ?_ h
  unfold del
  have h1 : (xs.take n ++ xs.drop (n + 1)).Sublist (xs.take n ++ xs.drop n) := List.Sublist.append (List.Sublist.refl _) (List.drop_sublist_drop_left xs (Nat.le_succ n))
  rw [List.take_append_drop] at h1
  exact h1
theorem firstAt_cases {α : Type} (p : α → Bool) : ∀ (xs : List α) (i : Nat), (firstAt p xs i = -1 ∧ ∀ x, x ∈ xs → p x = false) ∨
    ∃ (n : Nat) (x : α), firstAt p xs i = ((i + n : Nat) : Int) ∧ xs[n]? = some x ∧ p x = true ∧ ∀ (m : Nat) (y : α), m < n → xs[m]? = some y → p y = false
  | [], i => .inl ⟨rfl, fun x hx => (by cases hx)⟩
  | x :: r, i => by
    unfold firstAt
    cases hx : p x with
    | true => exact .inr ⟨0, x, rfl, rfl, hx, fun m y hm => absurd hm (Nat.not_lt_zero _)⟩
    | false =>
      rcases firstAt_cases p r (i + 1) with ⟨h1, h2⟩ | ⟨n, y, h1, h2, h3, h4⟩
      · refine .inl ⟨h1, fun y hy => ?_⟩
        rcases List.mem_cons.1 hy with rfl | hy
        · exact hx
        · exact h2 y hy
      · refine .inr ⟨n + 1, y, ?_, by simpa using h2, h3, fun m z hm hz => ?_⟩
        · simp only [cond_false]; rw [h1]; congr 1; omega
        · cases m with
          | zero => simp at hz; subst hz; exact hx
          | succ m => exact h4 m z (by omega) (by simpa using hz)
theorem firstAt_map {α β : Type} (f : α → β) (p : β → Bool) : ∀ (xs : List α) (i : Nat), firstAt (fun x => p (f x)) xs i = firstAt p (xs.map f) i
  | [], _ => rfl
  | x :: r, i => by rw [List.map_cons]; unfold firstAt; rw [firstAt_map f p r]
def ids (s : List GCell) : List Int := s.map (·.id)
def atI (l : List Int) (v : Int) : Int := firstAt (fun c => c == v) l 0
theorem atE_ids (s : List GCell) (v : Int) : atE s v = atI (ids s) v := firstAt_map (fun x : GCell => x.id) (fun c => c == v) s 0
theorem atI_of {l : List Int} (h : l.Nodup) {n : Nat} {v : Int} (hv : l[n]? = some v) : atI l v = (n : Int) := by
  unfold atI
  rcases firstAt_cases (fun c => c == v) l 0 with ⟨h1, h2⟩ | ⟨m, y, h1, h2, h3, h4⟩
  · have := h2 v (List.mem_of_getElem? hv)
    simp at this
  · have hy := eq_of_beq h3
    subst hy
    rw [h1, Nat.zero_add]
    have : m = n := by
      obtain ⟨hm, em⟩ := List.getElem?_eq_some_iff.1 h2
      obtain ⟨hn, en⟩ := List.getElem?_eq_some_iff.1 hv
      have pw := List.pairwise_iff_getElem.1 h
      rcases Nat.lt_trichotomy m n with q | q | q
      · exact absurd (em.trans en.symm) (pw m n hm hn q)
      · exact q
      · exact absurd (en.trans em.symm) (pw n m hn hm q)
    rw [this]
theorem atI_none {l : List Int} {v : Int} (h : ¬ v ∈ l) : atI l v = -1 := by
  unfold atI
  rcases firstAt_cases (fun c => c == v) l 0 with ⟨h1, _⟩ | ⟨m, y, h1, h2, h3, _⟩
  · exact h1
  · have hy := eq_of_beq h3
    subst hy
    exact absurd (List.mem_of_getElem? h2) h
theorem atI_neg {l : List Int} {v : Int} (h : atI l v < 0) : ¬ v ∈ l := by
  unfold atI at h
  rcases firstAt_cases (fun c => c == v) l 0 with ⟨_, h2⟩ | ⟨m, y, h1, _⟩
  · intro hv
    have := h2 v hv
    simp at this
  · rw [h1] at h; omega
theorem nodup_of {l : List Int} (h : ∀ (k : Nat) (v : Int), l[k]? = some v → atI l v = (k : Int)) : l.Nodup := by
  refine List.pairwise_iff_getElem.2 fun i j hi hj hij he => ?_
  have h1 := h i l[i] (List.getElem?_eq_getElem hi)
  have h2 := h j l[j] (List.getElem?_eq_getElem hj)
  rw [he] at h1
  omega

theorem allAt_of' {α : Type} {p : α → Nat → Bool} : ∀ {xs : List α} {i : Nat}, (∀ (k : Nat) (x : α), xs[k]? = some x → p x (i + k) = true) → allAt p xs i = true
  | [], i, _ => rfl
  | y :: ys, i, h => by
    unfold allAt
    rw [Bool.and_eq_true]
    refine ⟨h 0 y rfl, allAt_of' fun k x hx => ?_⟩
    have := h (k + 1) x (by simpa using hx)
    rw [show i + 1 + k = i + (k + 1) by omega]; exact this
theorem allAt_of {α : Type} {p : α → Nat → Bool} {xs : List α} (h : ∀ (k : Nat) (x : α), xs[k]? = some x → p x k = true) : allAt p xs 0 = true :=
  allAt_of' fun k x hx => by rw [Nat.zero_add]; exact h k x hx

/-! content -/
theorem uncell_iff {x y : GCell} : uncell x = uncell y ↔ x.id = y.id ∧ x.kind = y.kind ∧ x.name = y.name ∧ x.code = y.code ∧ x.n = y.n := by
  unfold uncell
  constructor
  · intro h
    injection h with h1 _ h2 h3 h4 h5
    exact ⟨h1, h2, h3, h4, h5⟩
  · rintro ⟨h1, h2, h3, h4, h5⟩
    rw [h1, h2, h3, h4, h5]
noncomputable def cellU (x : GCell) : Bool := cellB (GCell.mk x.id 1 x.kind x.name x.code x.n)
theorem cellB_iff {x : GCell} : cellB x = true ↔ (1 ≤ x.version ∧ x.version ≤ 999) ∧ cellU x = true := by
  constructor
  · intro h
    have hv := cell_version h
    refine ⟨hv, ?_⟩
    unfold cellU cellB sIsValidCell
    unfold cellB sIsValidCell at h
    rw [sL1In_ok, sL1In_ok] at h ⊢
    rw [decide_eq_true hv.1, decide_eq_true hv.2] at h
    exact h
  · rintro ⟨hv, h⟩
    unfold cellU cellB sIsValidCell at h
    unfold cellB sIsValidCell
    rw [sL1In_ok, sL1In_ok] at h ⊢
    rw [decide_eq_true hv.1, decide_eq_true hv.2]
    exact h
theorem cellU_eq {x y : GCell} (h : uncell x = uncell y) : cellU x = cellU y := by
  obtain ⟨h1, h2, h3, h4, h5⟩ := uncell_iff.1 h
  unfold cellU; rw [h1, h2, h3, h4, h5]
structure Nb (s : List GCell) : Prop where
  fit : Fit B20 (.base .notebook) (GNotebook.mk s)
  len : s.length ≤ 8
  val : ∀ x, x ∈ s → cellB x = true
  nd : (ids s).Nodup
theorem nbB_iff {s : List GCell} (hf : Fit B20 (.base .notebook) (GNotebook.mk s)) : nbB s = true ↔ Nb s := by
  have h0 := hf
  rw [fit_notebook] at h0
  have h : s.length < lim ∧ ∀ x ∈ s, Fit B20 (.base .cell) x := ⟨lim20 (list20 h0), h0.list_mem⟩
  have e : sIsValidNotebook (GNotebook.mk s) = some (allAt (fun c i => cellB c && !(firstAt (fun d => d.id == c.id) s 0 != (i : Int))) s 0 && decide ((s.length : Int) ≤ 8)) := by
    refine scan_all (fun i => ((s, (i : Int)) : List GCell × Int)) s _ _ (fun i x hx => ?_) ?_
    · obtain ⟨hlt, rfl⟩ := List.getElem?_eq_some_iff.1 hx
      have hc := cellB_some (h.2 _ (List.getElem_mem hlt))
      simp only [lt_of_nat hlt, cond_true, idx_nat, hx, Option.bind_some, w64_succ hlt h.1, hc, sCellIndex_ok ⟨s⟩ _ h.1]
      cases cellB s[i] <;> cases (firstAt (fun d => d.id == s[i].id) s 0 != (i : Int)) <;> rfl
    · simp only [nlt_self, cond_false]
  have at_id : ∀ x : GCell, firstAt (fun d => d.id == x.id) s 0 = atI (ids s) x.id := fun x => atE_ids s x.id
  unfold nbB
  rw [e, Option.getD_some, Bool.and_eq_true, decide_eq_true_eq]
  constructor
  · rintro ⟨h1, h2⟩
    have g := fun k x hx => allAt_get h1 k x hx
    simp only [Nat.zero_add, Bool.and_eq_true, Bool.not_eq_true', at_id] at g
    refine ⟨hf, by omega, fun x hx => ?_, nodup_of fun k v hv => ?_⟩
    · obtain ⟨k, hk⟩ := List.getElem?_of_mem hx
      exact (g k x hk).1
    · unfold ids at hv
      rw [List.getElem?_map] at hv
      cases hk : s[k]? with
      | none => rw [hk] at hv; cases hv
      | some x =>
        rw [hk] at hv
        have hv : x.id = v := by simpa using hv
        have := (g k x hk).2
        rw [← hv]
        simpa using this
  · intro hn
    refine ⟨?_, by have := hn.len; omega⟩
    refine allAt_of fun k x hx => ?_
    have h1 := hn.val x (List.mem_of_getElem? hx)
    have h2 : atI (ids s) x.id = (k : Int) := atI_of hn.nd (by unfold ids; rw [List.getElem?_map, hx]; rfl)
    rw [h1, at_id, h2]
    simp

/-! one edit -/
theorem apE_fit {s : List GCell} {e : GEdit} (hs : Fit B20 (.base .notebook) (GNotebook.mk s)) (he : Fit B20 (.base .edit) e) : Fit B20 (.base .notebook) (GNotebook.mk (apE s e).1) := by
  obtain ⟨w, n, h1, _, h3⟩ := applyEdit_eq (GNotebook.mk s) e hs he
  rw [sApplyEdit_ok (GNotebook.mk s) e hs he] at h1
  injection h1 with h1
  injection h1 with h1 _
  rw [h1]; exact h3
theorem apE_len (s : List GCell) (e : GEdit) : (apE s e).1.length ≤ s.length + 1 := by
  unfold apE
  split
  · split
    · split
      · split
        · exact Nat.le_succ _
        · split
          · exact Nat.le_succ _
          · show (ins s _ _).length ≤ _
            rw [len_ins _ _ _ (show clampN s.length e.pos ≤ s.length from Nat.min_le_left _ _)]; omega
      · exact Nat.le_succ _
    · split
      · rename_i x hx
        split
        · exact Nat.le_succ _
        · have hn := (List.getElem?_eq_some_iff.1 hx).1
          have dl := len_del s _ hn
          unfold onE
          split
          · show (del s _).length ≤ _; omega
          · split
            · show (ins (del s _) _ _).length ≤ _
              rw [len_ins _ _ _ (show clampN (del s (atE s e.cell.id).toNat).length e.pos ≤ (del s (atE s e.cell.id).toNat).length from Nat.min_le_left _ _)]; omega
            · split
              · show (s.set _ _).length ≤ _
                rw [List.length_set]; omega
              · exact Nat.le_succ _
      · exact Nat.le_succ _
  · exact Nat.le_succ _
theorem apE_zero {s : List GCell} {e : GEdit} (h : (apE s e).2 = 0) : nbB s = true ∧ (1 ≤ e.kind ∧ e.kind ≤ 6) ∧
    ((e.kind = 1 ∧ cellB e.cell = true ∧ atE s e.cell.id < 0 ∧ s.length ≠ 8 ∧ (apE s e).1 = ins s (clampN s.length e.pos) e.cell) ∨
     (e.kind ≠ 1 ∧ ∃ (n : Nat) (x : GCell), s[n]? = some x ∧ x.id = e.cell.id ∧ atE s e.cell.id = (n : Int) ∧ (onE s e n x).2 = 0 ∧ (apE s e).1 = (onE s e n x).1)) := by
  unfold apE at h ⊢
  by_cases c : nbB s = true ∧ 1 ≤ e.kind ∧ e.kind ≤ 6
  · rw [if_pos c] at h ⊢
    refine ⟨c.1, c.2, ?_⟩
    by_cases k1 : e.kind = 1
    · rw [if_pos k1] at h ⊢
      by_cases c2 : cellB e.cell = true
      · rw [if_pos c2] at h ⊢
        by_cases c3 : 0 ≤ atE s e.cell.id
        · rw [if_pos c3] at h; cases h
        · rw [if_neg c3] at h ⊢
          by_cases c4 : s.length = 8
          · rw [if_pos c4] at h; cases h
          · rw [if_neg c4]
            exact .inl ⟨k1, c2, by omega, c4, rfl⟩
      · rw [if_neg c2] at h; cases h
    · rw [if_neg k1] at h ⊢
      refine .inr ⟨k1, ?_⟩
      rcases firstAt_cases (fun c : GCell => c.id == e.cell.id) s 0 with ⟨h1, _⟩ | ⟨n, x, h1, h2, h3, _⟩
      · have h1 : atE s e.cell.id = -1 := h1
        rw [h1] at h
        simp only [show (-1 : Int) < 0 from by decide, if_true] at h
        revert h
        cases s[(-1 : Int).toNat]? <;> (intro h; cases h)
      · have h1 : atE s e.cell.id = ((0 + n : Nat) : Int) := h1
        rw [Nat.zero_add] at h1
        rw [h1] at h ⊢
        simp only [if_neg (show ¬ ((n : Nat) : Int) < 0 by omega), Int.toNat_natCast, h2] at h ⊢
        exact ⟨n, x, h2, eq_of_beq h3, rfl, h, rfl⟩
  · rw [if_neg c] at h; cases h
theorem apE_ins {s : List GCell} {e : GEdit} (hn : nbB s = true) (k1 : e.kind = 1) (hc : cellB e.cell = true) (ha : atE s e.cell.id < 0) (hl : s.length ≠ 8) : apE s e = (ins s (clampN s.length e.pos) e.cell, 0) := by
  unfold apE
  rw [if_pos ⟨hn, by omega, by omega⟩, if_pos k1, if_pos hc, if_neg (by omega), if_neg hl]
theorem apE_on {s : List GCell} {e : GEdit} {n : Nat} {x : GCell} (hn : nbB s = true) (k1 : 2 ≤ e.kind ∧ e.kind ≤ 6) (ha : atE s e.cell.id = (n : Int)) (hx : s[n]? = some x) : apE s e = onE s e n x := by
  unfold apE
  rw [if_pos ⟨hn, by omega, by omega⟩, if_neg (by omega), ha]
  simp only [if_neg (show ¬ ((n : Nat) : Int) < 0 by omega), Int.toNat_natCast, hx]
theorem onE_zero {s : List GCell} {e : GEdit} {n : Nat} {x : GCell} (h : (onE s e n x).2 = 0) :
    (e.kind = 2 ∧ (onE s e n x).1 = del s n) ∨ (e.kind = 3 ∧ (onE s e n x).1 = ins (del s n) (clampN (del s n).length e.pos) x) ∨
    (e.kind ≠ 2 ∧ e.kind ≠ 3 ∧ (turnE x e).2 = 0 ∧ (onE s e n x).1 = s.set n (turnE x e).1) := by
  unfold onE at h ⊢
  by_cases k2 : e.kind = 2
  · rw [if_pos k2]; exact .inl ⟨k2, rfl⟩
  rw [if_neg k2] at h ⊢
  by_cases k3 : e.kind = 3
  · rw [if_pos k3]; exact .inr (.inl ⟨k3, rfl⟩)
  rw [if_neg k3] at h ⊢
  by_cases q : (turnE x e).2 = 0
  · rw [if_pos q]; exact .inr (.inr ⟨k2, k3, q, rfl⟩)
  · rw [if_neg q] at h; exact absurd h q
theorem turnE_zero {x : GCell} {e : GEdit} (h : (turnE x e).2 = 0) : cellB (turnE x e).1 = true ∧ (turnE x e).1.id = x.id ∧ (turnE x e).1.kind = x.kind ∧
    ((e.kind = 4 ∧ x.kind ≠ 3 ∧ (turnE x e).1.n = x.n) ∨ (e.kind = 5 ∧ x.kind = 3 ∧ (turnE x e).1.name = x.name ∧ (turnE x e).1.code = x.code) ∨
     (e.kind ≠ 4 ∧ e.kind ≠ 5 ∧ x.kind = 2 ∧ uncell (turnE x e).1 = uncell x)) := by
  unfold turnE at h ⊢
  by_cases k4 : e.kind = 4
  · rw [if_pos k4] at h ⊢
    by_cases q : x.kind = 3
    · rw [if_pos q] at h; cases h
    rw [if_neg q] at h ⊢
    by_cases q2 : x.version = 999
    · rw [if_pos q2] at h; cases h
    rw [if_neg q2] at h ⊢
    by_cases q3 : cellB (GCell.mk x.id (x.version + 1) x.kind e.cell.name e.cell.code x.n) = true
    · rw [if_pos q3]; exact ⟨q3, rfl, rfl, .inl ⟨k4, q, rfl⟩⟩
    · rw [if_neg q3] at h; cases h
  rw [if_neg k4] at h ⊢
  by_cases k5 : e.kind = 5
  · rw [if_pos k5] at h ⊢
    by_cases q : x.kind = 3
    · rw [if_pos q] at h ⊢
      by_cases q3 : cellB (GCell.mk x.id x.version x.kind x.name x.code e.cell.n) = true
      · rw [if_pos q3]; exact ⟨q3, rfl, rfl, .inr (.inl ⟨k5, q, rfl, rfl⟩)⟩
      · rw [if_neg q3] at h; cases h
    · rw [if_neg q] at h; cases h
  rw [if_neg k5] at h ⊢
  by_cases q : x.kind = 2
  · rw [if_pos q] at h ⊢
    by_cases q2 : x.version = 999
    · rw [if_pos q2] at h; cases h
    rw [if_neg q2] at h ⊢
    by_cases q3 : cellB (GCell.mk x.id (x.version + 1) x.kind x.name x.code x.n) = true
    · rw [if_pos q3]; exact ⟨q3, rfl, rfl, .inr (.inr ⟨k4, k5, q, rfl⟩)⟩
    · rw [if_neg q3] at h; cases h
  · rw [if_neg q] at h; cases h
theorem ids_get {s : List GCell} {n : Nat} {x : GCell} (h : s[n]? = some x) : (ids s)[n]? = some x.id := by unfold ids; rw [List.getElem?_map, h]; rfl
theorem ids_set {s : List GCell} {n : Nat} {x y : GCell} (h : s[n]? = some x) (he : y.id = x.id) : ids (s.set n y) = ids s := by
  unfold ids
  rw [List.map_set]
  apply List.ext_getElem?
  intro i
  rw [List.getElem?_set]
  by_cases q : n = i
  · subst q
    have hn := (List.getElem?_eq_some_iff.1 h).1
    rw [if_pos rfl, if_pos (by simpa using hn), List.getElem?_map, h, he]; rfl
  · rw [if_neg q]
/-- an edit leaves the notebook valid -/
theorem apE_nb {s : List GCell} {e : GEdit} (hs : Nb s) (he : Fit B20 (.base .edit) e) (h : (apE s e).2 = 0) : Nb (apE s e).1 := by
  have hf := apE_fit hs.fit he
  obtain ⟨_, hk, h⟩ := apE_zero h
  rcases h with ⟨k1, hc, ha, hl, e1⟩ | ⟨k1, n, x, hx, hid, hat, ho, e1⟩
  · rw [e1] at hf ⊢
    have hn : clampN s.length e.pos ≤ s.length := Nat.min_le_left _ _
    rw [atE_ids] at ha
    refine ⟨hf, ?_, fun y hy => ?_, ?_⟩
    · rw [len_ins _ _ _ hn]; have := hs.len; omega
    · rcases mem_ins hy with rfl | hy
      · exact hc
      · exact hs.val y hy
    · unfold ids
      rw [map_ins, nodup_ins]
      exact ⟨atI_neg ha, hs.nd⟩
  · rw [e1] at hf ⊢
    have hn := (List.getElem?_eq_some_iff.1 hx).1
    have dnd : (ids (del s n)).Nodup := by unfold ids; rw [map_del]; exact nodup_del n hs.nd
    have dl := len_del s n hn
    rcases onE_zero ho with ⟨k2, e2⟩ | ⟨k3, e2⟩ | ⟨_, _, ht, e2⟩
    · rw [e2] at hf ⊢
      exact ⟨hf, by have := hs.len; omega, fun y hy => hs.val y (mem_del hy), dnd⟩
    · rw [e2] at hf ⊢
      refine ⟨hf, ?_, fun y hy => ?_, ?_⟩
      · rw [len_ins _ _ _ (show clampN (del s n).length e.pos ≤ (del s n).length from Nat.min_le_left _ _)]; have := hs.len; omega
      · rcases mem_ins hy with rfl | hy
        · exact hs.val _ (List.mem_of_getElem? hx)
        · exact hs.val y (mem_del hy)
      · unfold ids at dnd ⊢
        rw [map_ins, nodup_ins]
        refine ⟨fun hm => ?_, dnd⟩
        have hh := hs.nd
        rw [← ins_del (ids s) n x.id (ids_get hx), nodup_ins] at hh
        rw [map_del] at hm
        exact hh.1 hm
    · rw [e2] at hf ⊢
      obtain ⟨t1, t2, _⟩ := turnE_zero ht
      refine ⟨hf, by rw [List.length_set]; exact hs.len, fun y hy => ?_, ?_⟩
      · rcases List.mem_or_eq_of_mem_set hy with hy | rfl
        · exact hs.val y hy
        · exact t1
      · rw [ids_set hx t2]; exact hs.nd
/-- the inverse edit -/
def ivE (s : List GCell) (e : GEdit) : GEdit :=
  if e.kind = 1 then GEdit.mk 2 0 (GCell.mk e.cell.id 0 0 [] [] 0)
  else match s[(atE s e.cell.id).toNat]? with
    | none => GEdit.mk 0 0 (GCell.mk 0 0 0 [] [] 0)
    | some x =>
      if e.kind = 2 then GEdit.mk 1 (atE s e.cell.id) x
      else if e.kind = 3 then GEdit.mk 3 (atE s e.cell.id) (GCell.mk e.cell.id 0 0 [] [] 0)
      else if e.kind = 4 then GEdit.mk 4 0 (GCell.mk e.cell.id 0 0 x.name x.code 0)
      else if e.kind = 5 then GEdit.mk 5 0 (GCell.mk e.cell.id 0 0 [] [] x.n)
      else GEdit.mk 6 0 (GCell.mk e.cell.id 0 0 [] [] 0)
theorem set_ct {s : List GCell} {n : Nat} {x y : GCell} (h : s[n]? = some x) (he : uncell y = uncell x) {z : GCell} : ((s.map uncell).set n z).set n (uncell y) = s.map uncell := by
  rw [List.set_set, he]
  apply List.ext_getElem?
  intro i
  rw [List.getElem?_set]
  by_cases q : n = i
  · subst q
    have hn := (List.getElem?_eq_some_iff.1 h).1
    rw [if_pos rfl, if_pos (by simpa using hn), List.getElem?_map, h]; rfl
  · rw [if_neg q]
theorem back_ok {s t : List GCell} {e : GEdit} (hs : Nb s) (he : Fit B20 (.base .edit) e) (h0 : (apE s e).2 = 0) (ht : Nb t) (hc : t.map uncell = (apE s e).1.map uncell) :
    ((apE t (ivE s e)).2 = 0 ∧ (apE t (ivE s e)).1.map uncell = s.map uncell) ∨ (apE t (ivE s e)).2 = 6 := by
  have hids : ids t = ids (apE s e).1 := by
    have : ∀ l : List GCell, ids l = (l.map uncell).map (·.id) := fun l => by unfold ids; rw [List.map_map]; rfl
    rw [this, this, hc]
  have hlen : t.length = (apE s e).1.length := by
    have := congrArg List.length hc
    rw [List.length_map, List.length_map] at this
    exact this
  have hnt := (nbB_iff ht.fit).2 ht
  have hget : ∀ (n : Nat) (y : GCell), (apE s e).1[n]? = some y → ∃ z, t[n]? = some z ∧ uncell z = uncell y := fun n y hy => by
    have : (t.map uncell)[n]? = some (uncell y) := by rw [hc, List.getElem?_map, hy]; rfl
    rw [List.getElem?_map] at this
    cases hz : t[n]? with
    | none => rw [hz] at this; cases this
    | some z => rw [hz] at this; exact ⟨z, rfl, by simpa using this⟩
  obtain ⟨_, hk, h⟩ := apE_zero h0
  rcases h with ⟨k1, hcell, ha, hl, e1⟩ | ⟨k1, n, x, hx, hid, hat, ho, e1⟩
  · -- an insertion is taken back by a deletion
    have hn : clampN s.length e.pos ≤ s.length := Nat.min_le_left _ _
    rw [e1] at hc hids hget
    obtain ⟨z, hz, _⟩ := hget _ _ (get_ins s _ e.cell hn)
    have hiv : ivE s e = GEdit.mk 2 0 (GCell.mk e.cell.id 0 0 [] [] 0) := by unfold ivE; rw [if_pos k1]
    have hat : atE t e.cell.id = ((clampN s.length e.pos : Nat) : Int) := by
      rw [atE_ids]
      refine atI_of ht.nd ?_
      rw [hids]
      exact ids_get (get_ins s _ e.cell hn)
    have q := apE_on (e := GEdit.mk 2 0 (GCell.mk e.cell.id 0 0 [] [] 0)) hnt ⟨show (2 : Int) ≤ 2 by decide, show (2 : Int) ≤ 6 by decide⟩ hat hz
    rw [hiv, q]
    refine .inl ⟨rfl, ?_⟩
    show (del t _).map uncell = _
    rw [map_del, hc, map_ins, del_ins _ _ _ (by rw [List.length_map]; exact hn)]
  · have hn := (List.getElem?_eq_some_iff.1 hx).1
    have dl := len_del s n hn
    have hdd : ¬ x.id ∈ del (ids s) n ∧ (del (ids s) n).Nodup := by
      have := hs.nd
      rw [← ins_del (ids s) n x.id (ids_get hx), nodup_ins] at this
      exact this
    have hxc := hs.val x (List.mem_of_getElem? hx)
    rcases onE_zero ho with ⟨k2, e2⟩ | ⟨k3, e2⟩ | ⟨n2, n3, htu, e2⟩
    · -- a deletion by an insertion
      rw [e1, e2] at hc hids hlen
      have hiv : ivE s e = GEdit.mk 1 (n : Int) x := by unfold ivE; rw [if_neg k1, hat, Int.toNat_natCast, hx]; simp only [if_pos k2]
      have hneg : atE t x.id < 0 := by
        rw [atE_ids, hids]
        unfold ids
        rw [map_del]
        have : atI (del (ids s) n) x.id = -1 := atI_none hdd.1
        unfold ids at this
        rw [this]; decide
      have h8 : t.length ≠ 8 := by have := hs.len; omega
      have q := apE_ins (e := GEdit.mk 1 (n : Int) x) hnt rfl hxc hneg h8
      rw [hiv, q]
      refine .inl ⟨rfl, ?_⟩
      have hcl : clampN t.length (n : Int) = n := by unfold clampN; rw [Int.toNat_natCast]; omega
      show (ins t (clampN t.length (n : Int)) x).map uncell = _
      rw [hcl, map_ins, hc, map_del]
      exact ins_del _ n _ (by rw [List.getElem?_map, hx]; rfl)
    · -- a move by a move
      have hm : clampN (del s n).length e.pos ≤ (del s n).length := Nat.min_le_left _ _
      rw [e1, e2] at hc hids hlen hget
      rw [len_ins _ _ _ hm] at hlen
      obtain ⟨z, hz, hzx⟩ := hget _ _ (get_ins (del s n) _ x hm)
      have hiv : ivE s e = GEdit.mk 3 (n : Int) (GCell.mk e.cell.id 0 0 [] [] 0) := by
        unfold ivE; rw [if_neg k1, hat, Int.toNat_natCast, hx]; simp only [if_neg (show ¬ e.kind = 2 by omega), if_pos k3]
      have hatt : atE t e.cell.id = ((clampN (del s n).length e.pos : Nat) : Int) := by
        rw [atE_ids]
        refine atI_of ht.nd ?_
        rw [hids, ← hid]
        exact ids_get (get_ins (del s n) _ x hm)
      have q := apE_on (e := GEdit.mk 3 (n : Int) (GCell.mk e.cell.id 0 0 [] [] 0)) hnt ⟨show (2 : Int) ≤ 3 by decide, show (3 : Int) ≤ 6 by decide⟩ hatt hz
      rw [hiv, q]
      refine .inl ⟨rfl, ?_⟩
      have hzl := (List.getElem?_eq_some_iff.1 hz).1
      have dt := len_del t _ hzl
      have hcl : clampN (del t (clampN (del s n).length e.pos)).length (n : Int) = n := by
        generalize clampN (del s n).length e.pos = m at *
        unfold clampN; rw [Int.toNat_natCast]; omega
      show (ins (del t _) (clampN (del t _).length (n : Int)) z).map uncell = _
      rw [hcl, map_ins, map_del, hc, map_ins, del_ins _ _ _ (by rw [List.length_map]; exact hm), hzx, map_del]
      exact ins_del _ n _ (by rw [List.getElem?_map, hx]; rfl)
    · -- a turn by a turn
      obtain ⟨c1, c2, c3, c4⟩ := turnE_zero htu
      rw [e1, e2] at hc hids hlen hget
      obtain ⟨z, hz, hzx⟩ := hget n (turnE x e).1 (by rw [List.getElem?_set_self hn])
      obtain ⟨z1, z2, z3, z4, z5⟩ := uncell_iff.1 hzx
      have hzc := ht.val z (List.mem_of_getElem? hz)
      have hzv := cell_version hzc
      have hxu := (cellB_iff.1 hxc).2
      have hatt : atE t e.cell.id = (n : Int) := by
        rw [atE_ids, hids, ids_set hx c2, ← hid]
        exact atI_of hs.nd (ids_get hx)
      have fin : ∀ (f : GEdit), f.cell.id = e.cell.id → f.kind = e.kind → 4 ≤ e.kind → ((turnE z f).2 = 0 → uncell (turnE z f).1 = uncell x) → ((turnE z f).2 = 0 ∨ (turnE z f).2 = 6) →
          ((apE t f).2 = 0 ∧ (apE t f).1.map uncell = s.map uncell) ∨ (apE t f).2 = 6 := by
        intro f hf1 hf2 hf3 hf4 hf5
        have q2 : ¬ f.kind = 2 := by omega
        have q3 : ¬ f.kind = 3 := by omega
        rw [apE_on hnt ⟨by omega, by omega⟩ (by rw [hf1]; exact hatt) hz]
        unfold onE
        rw [if_neg q2, if_neg q3]
        rcases hf5 with h5 | h5
        · rw [if_pos h5]
          refine .inl ⟨rfl, ?_⟩
          show (t.set n _).map uncell = _
          rw [List.map_set, hc, List.map_set]
          exact set_ct hx (hf4 h5)
        · rw [if_neg (by rw [h5]; decide)]; exact .inr h5
      rcases c4 with ⟨k4, q3, q5⟩ | ⟨k5, q3, q4, q5⟩ | ⟨k4, k5, q2, q3⟩
      · have hiv : ivE s e = GEdit.mk 4 0 (GCell.mk e.cell.id 0 0 x.name x.code 0) := by
          unfold ivE; rw [if_neg k1, hat, Int.toNat_natCast, hx]; simp only [if_neg n2, if_neg n3, if_pos k4]
        rw [hiv]
        have hzk : ¬ z.kind = 3 := by rw [z2, c3]; exact q3
        by_cases hv : z.version = 999
        · have : turnE z (GEdit.mk 4 0 (GCell.mk e.cell.id 0 0 x.name x.code 0)) = (z, 6) := by
            unfold turnE; rw [if_pos rfl, if_neg hzk, if_pos hv]
          exact fin _ rfl k4.symm (by omega) (by rw [this]; intro h; cases h) (.inr (by rw [this]))
        · have hu : uncell (GCell.mk z.id (z.version + 1) z.kind x.name x.code z.n) = uncell x := uncell_iff.2 ⟨z1.trans c2, z2.trans c3, rfl, rfl, z5.trans q5⟩
          have hb : cellB (GCell.mk z.id (z.version + 1) z.kind x.name x.code z.n) = true := cellB_iff.2 ⟨⟨by show 1 ≤ z.version + 1; omega, by show z.version + 1 ≤ 999; omega⟩, by rw [cellU_eq hu]; exact hxu⟩
          have : turnE z (GEdit.mk 4 0 (GCell.mk e.cell.id 0 0 x.name x.code 0)) = (GCell.mk z.id (z.version + 1) z.kind x.name x.code z.n, 0) := by
            unfold turnE; rw [if_pos rfl, if_neg hzk, if_neg hv, if_pos hb]
          exact fin _ rfl k4.symm (by omega) (by rw [this]; exact fun _ => hu) (.inl (by rw [this]))
      · have hiv : ivE s e = GEdit.mk 5 0 (GCell.mk e.cell.id 0 0 [] [] x.n) := by
          unfold ivE; rw [if_neg k1, hat, Int.toNat_natCast, hx]; simp only [if_neg n2, if_neg n3, if_neg (show ¬ e.kind = 4 by omega), if_pos k5]
        rw [hiv]
        have hzk : z.kind = 3 := by rw [z2, c3]; exact q3
        have hu : uncell (GCell.mk z.id z.version z.kind z.name z.code x.n) = uncell x := uncell_iff.2 ⟨z1.trans c2, z2.trans c3, z3.trans q4, z4.trans q5, rfl⟩
        have hb : cellB (GCell.mk z.id z.version z.kind z.name z.code x.n) = true := cellB_iff.2 ⟨hzv, by rw [cellU_eq hu]; exact hxu⟩
        have : turnE z (GEdit.mk 5 0 (GCell.mk e.cell.id 0 0 [] [] x.n)) = (GCell.mk z.id z.version z.kind z.name z.code x.n, 0) := by
          unfold turnE; rw [if_neg (show ¬ (5 : Int) = 4 by decide), if_pos rfl, if_pos hzk, if_pos hb]
        exact fin _ rfl k5.symm (by omega) (by rw [this]; exact fun _ => hu) (.inl (by rw [this]))
      · have k6 : e.kind = 6 := by omega
        have hiv : ivE s e = GEdit.mk 6 0 (GCell.mk e.cell.id 0 0 [] [] 0) := by
          unfold ivE; rw [if_neg k1, hat, Int.toNat_natCast, hx]; simp only [if_neg n2, if_neg n3, if_neg k4, if_neg k5]
        rw [hiv]
        have hzk : z.kind = 2 := by rw [z2, c3]; exact q2
        by_cases hv : z.version = 999
        · have : turnE z (GEdit.mk 6 0 (GCell.mk e.cell.id 0 0 [] [] 0)) = (z, 6) := by
            unfold turnE; rw [if_neg (show ¬ (6 : Int) = 4 by decide), if_neg (show ¬ (6 : Int) = 5 by decide), if_pos hzk, if_pos hv]
          exact fin _ rfl k6.symm (by omega) (by rw [this]; intro h; cases h) (.inr (by rw [this]))
        · have hu : uncell (GCell.mk z.id (z.version + 1) z.kind z.name z.code z.n) = uncell x := (show _ = uncell z from rfl).trans (hzx.trans q3)
          have hb : cellB (GCell.mk z.id (z.version + 1) z.kind z.name z.code z.n) = true := cellB_iff.2 ⟨⟨by show 1 ≤ z.version + 1; omega, by show z.version + 1 ≤ 999; omega⟩, by rw [cellU_eq hu]; exact hxu⟩
          have : turnE z (GEdit.mk 6 0 (GCell.mk e.cell.id 0 0 [] [] 0)) = (GCell.mk z.id (z.version + 1) z.kind z.name z.code z.n, 0) := by
            unfold turnE; rw [if_neg (show ¬ (6 : Int) = 4 by decide), if_neg (show ¬ (6 : Int) = 5 by decide), if_pos hzk, if_neg hv, if_pos hb]
          exact fin _ rfl k6.symm (by omega) (by rw [this]; exact fun _ => hu) (.inl (by rw [this]))

/-- a loop over a list with a known result -/
theorem list_eq {α X ρ σ : Type} {g : X → Option (X ⊕ ρ)} (pk : σ → Nat → X) (xs : List α) (I : Nat → σ → Prop) (R : ρ)
    (hs : ∀ i x s, xs[i]? = some x → I i s → (∃ s', g (pk s i) = some (.inl (pk s' (i + 1))) ∧ I (i + 1) s') ∨ ∃ r, g (pk s i) = some (.inr r) ∧ r = R)
    (hf : ∀ s, I xs.length s → ∃ r, g (pk s xs.length) = some (.inr r) ∧ r = R) (s : σ) (h0 : I 0 s) : loopD g (pk s 0) = some R := by
  obtain ⟨r, e, h⟩ := list_ex pk xs I (fun r => r = R) hs hf s h0
  rw [e, h]
abbrev FitNb (s : List GCell) : Prop := Fit B20 (.base .notebook) (GNotebook.mk s)
abbrev FitE (e : GEdit) : Prop := Fit B20 (.base .edit) e
noncomputable def codes : List GCell → List GEdit → List Int
  | _, [] => []
  | s, e :: r => (apE s e).2 :: codes (apE s e).1 r
noncomputable def runE : List GCell → List GEdit → List GCell
  | s, [] => s
  | s, e :: r => runE (apE s e).1 r
noncomputable def backE : List GCell → List GEdit → List GEdit
  | _, [] => []
  | s, e :: r => backE (apE s e).1 r ++ [ivE s e]
def bad (l : List Int) : Int := firstAt (fun c => c != 0) l 0
theorem codes_append : ∀ (s : List GCell) (xs ys : List GEdit), codes s (xs ++ ys) = codes s xs ++ codes (runE s xs) ys
  | s, [], ys => rfl
  | s, e :: r, ys => by
    show (apE s e).2 :: codes (apE s e).1 (r ++ ys) = (apE s e).2 :: (codes (apE s e).1 r ++ codes (runE (apE s e).1 r) ys)
    rw [codes_append]
theorem runE_append : ∀ (s : List GCell) (xs ys : List GEdit), runE s (xs ++ ys) = runE (runE s xs) ys
  | s, [], ys => rfl
  | s, e :: r, ys => runE_append (apE s e).1 r ys
theorem backE_snoc : ∀ (s : List GCell) (xs : List GEdit) (e : GEdit), backE s (xs ++ [e]) = ivE (runE s xs) e :: backE s xs
  | s, [], e => rfl
  | s, x :: r, e => by
    show backE (apE s x).1 (r ++ [e]) ++ [ivE s x] = ivE (runE (apE s x).1 r) e :: (backE (apE s x).1 r ++ [ivE s x])
    rw [backE_snoc]; rfl
theorem codes_len : ∀ (s : List GCell) (xs : List GEdit), (codes s xs).length = xs.length
  | s, [] => rfl
  | s, e :: r => by
    show (codes (apE s e).1 r).length + 1 = r.length + 1
    rw [codes_len]
theorem backE_len : ∀ (s : List GCell) (xs : List GEdit), (backE s xs).length = xs.length
  | s, [] => rfl
  | s, e :: r => by
    show (backE (apE s e).1 r ++ [ivE s e]).length = r.length + 1
    rw [List.length_append, backE_len]; rfl
theorem codes_get : ∀ (s : List GCell) (xs : List GEdit) (i : Nat) (x : GEdit), xs[i]? = some x → (codes s xs)[i]? = some (apE (runE s (xs.take i)) x).2
  | s, [], i, x, h => by simp at h
  | s, e :: r, 0, x, h => by
    have : e = x := by simpa using h
    rw [this]; rfl
  | s, e :: r, i + 1, x, h => codes_get (apE s e).1 r i x (by simpa using h)
theorem runE_take (s : List GCell) {xs : List GEdit} {i : Nat} {x : GEdit} (h : xs[i]? = some x) : runE s (xs.take (i + 1)) = (apE (runE s (xs.take i)) x).1 := by
  obtain ⟨hi, rfl⟩ := List.getElem?_eq_some_iff.1 h
  rw [List.take_succ_eq_append_getElem hi, runE_append]; rfl
theorem codes_take (s : List GCell) {xs : List GEdit} {i : Nat} {x : GEdit} (h : xs[i]? = some x) : codes s (xs.take (i + 1)) = codes s (xs.take i) ++ [(apE (runE s (xs.take i)) x).2] := by
  obtain ⟨hi, rfl⟩ := List.getElem?_eq_some_iff.1 h
  rw [List.take_succ_eq_append_getElem hi, codes_append]; rfl
theorem backE_take (s : List GCell) {xs : List GEdit} {i : Nat} {x : GEdit} (h : xs[i]? = some x) : backE s (xs.take (i + 1)) = ivE (runE s (xs.take i)) x :: backE s (xs.take i) := by
  obtain ⟨hi, rfl⟩ := List.getElem?_eq_some_iff.1 h
  rw [List.take_succ_eq_append_getElem hi, backE_snoc]
theorem bad_none {l : List Int} (h : ∀ c, c ∈ l → c = 0) : bad l = -1 := by
  unfold bad
  rcases firstAt_cases (fun c : Int => c != 0) l 0 with ⟨h1, _⟩ | ⟨n, x, h1, h2, h3, _⟩
  · exact h1
  · have := h x (List.mem_of_getElem? h2)
    subst this
    cases h3
theorem bad_at {l : List Int} {i : Nat} {c : Int} (h : ∀ j, j < i → l[j]? = some 0) (hc : l[i]? = some c) (h0 : c ≠ 0) : bad l = (i : Int) := by
  unfold bad
  rcases firstAt_cases (fun c : Int => c != 0) l 0 with ⟨_, h2⟩ | ⟨n, x, h1, h2, h3, h4⟩
  · have := h2 c (List.mem_of_getElem? hc)
    exact absurd (by simpa using this) h0
  · rw [h1, Nat.zero_add]
    have hx : x ≠ 0 := by simpa using h3
    have : n = i := by
      rcases Nat.lt_trichotomy n i with q | q | q
      · have := h n q
        rw [h2] at this
        exact absurd (by simpa using this) hx
      · exact q
      · have := h4 i c q hc
        exact absurd (by simpa using this) h0
    rw [this]
theorem bad_zero {l : List Int} (h : bad l = -1) : ∀ c, c ∈ l → c = 0 := by
  unfold bad at h
  rcases firstAt_cases (fun c : Int => c != 0) l 0 with ⟨_, h2⟩ | ⟨n, x, h1, _⟩
  · intro c hc
    simpa using h2 c hc
  · rw [h1] at h; omega
theorem bad_cases (l : List Int) : (bad l = -1 ∧ ∀ c, c ∈ l → c = 0) ∨ ∃ n c, bad l = ((n : Nat) : Int) ∧ l[n]? = some c ∧ c ≠ 0 := by
  rcases firstAt_cases (fun c : Int => c != 0) l 0 with ⟨h1, h2⟩ | ⟨n, x, h1, h2, h3, _⟩
  · exact .inl ⟨h1, fun c hc => by simpa using h2 c hc⟩
  · exact .inr ⟨n, x, by unfold bad; rw [h1, Nat.zero_add], h2, by simpa using h3⟩
theorem runE_fit : ∀ {xs : List GEdit} {s : List GCell}, FitNb s → (∀ e, e ∈ xs → FitE e) → FitNb (runE s xs)
  | [], s, h, _ => h
  | e :: r, s, h, he => runE_fit (xs := r) (apE_fit h (he e List.mem_cons_self)) fun x hx => he x (List.mem_cons_of_mem _ hx)

/-! the inverse edit -/
theorem iApplyEdit_ok (s : List GCell) (e : GEdit) (hs : FitNb s) (he : FitE e) : iApplyEdit (GNotebook.mk s) e = some (GNotebook.mk (apE s e).1, (apE s e).2) := by
  obtain ⟨w, n, h1, h2, _⟩ := applyEdit_eq (GNotebook.mk s) e hs he
  rw [h2, ← h1]
  exact sApplyEdit_ok (GNotebook.mk s) e hs he
theorem iInverseEdit_ok (s : List GCell) (e : GEdit) (hs : FitNb s) (he : FitE e) :
    iInverseEdit (GNotebook.mk s) e = some (if (apE s e).2 = 0 then (ivE s e, true) else (GEdit.mk 0 0 (GCell.mk 0 0 0 [] [] 0), false)) := by
  have hl := nb_len hs
  unfold iInverseEdit
  rw [iApplyEdit_ok _ e hs he]
  simp only [Option.bind_some]
  by_cases h0 : (apE s e).2 = 0
  · rw [if_pos h0, h0]
    obtain ⟨_, hk, h⟩ := apE_zero h0
    simp only [bne_self_i, cond_false, iCellIndex_ok ⟨s⟩ _ (lim20 hl), Option.bind_some]
    rcases h with ⟨k1, _⟩ | ⟨k1, n, x, hx, hid, hat, ho, e1⟩
    · rw [k1]
      unfold ivE
      rw [if_pos k1]; rfl
    · have hat' : firstAt (fun c => c.id == e.cell.id) s 0 = (n : Int) := hat
      rw [show (e.kind == 1) = false by simpa using k1, cond_false]
      simp only [hat', idx_nat, hx, Option.bind_some]
      unfold ivE
      rw [if_neg k1, hat, Int.toNat_natCast, hx]
      simp only
      by_cases k2 : e.kind = 2
      · rw [if_pos k2, k2]; rfl
      rw [if_neg k2, show (e.kind == 2) = false by simpa using k2, cond_false]
      by_cases k3 : e.kind = 3
      · rw [if_pos k3, k3]; rfl
      rw [if_neg k3, show (e.kind == 3) = false by simpa using k3, cond_false]
      by_cases k4 : e.kind = 4
      · rw [if_pos k4, k4]; rfl
      rw [if_neg k4, show (e.kind == 4) = false by simpa using k4, cond_false]
      by_cases k5 : e.kind = 5
      · rw [if_pos k5, k5]; rfl
      rw [if_neg k5, show (e.kind == 5) = false by simpa using k5, cond_false]
      have k6 : e.kind = 6 := by omega
      rw [k6]
  · rw [if_neg h0, show ((apE s e).2 != 0) = true by simpa using h0]; rfl
theorem ivE_fit {s : List GCell} {e : GEdit} (hs : FitNb s) (he : FitE e) : FitE (ivE s e) := by
  have fs := hs
  unfold FitNb at fs
  rw [fit_notebook] at fs
  have he' := he
  unfold FitE at he'
  rw [fit_edit] at he'
  have fc := he'.2.2
  rw [fit_cell] at fc
  have z : FitD B20 (.int .i64 0) := int0 (wf_small (by omega) (by omega))
  have num : ∀ n : Int, 0 ≤ n → n ≤ 10 → FitD B20 (.int .i64 n) := fun n h h' => int0 (wf_small (by omega) (by omega))
  have bare := cell_bare fc.1 nilStr nilStr z
  unfold ivE
  by_cases k1 : e.kind = 1
  · rw [if_pos k1]; exact mk_edit (num 2 (by omega) (by omega)) z bare
  rw [if_neg k1]
  cases hx : s[(atE s e.cell.id).toNat]? with
  | none => exact mk_edit z z (cell_bare z nilStr nilStr z)
  | some x =>
    have fx := fs.list_mem x (List.mem_of_getElem? hx)
    have fx' := fx
    rw [fit_cell] at fx'
    have hat : FitD B20 (.int .i64 (atE s e.cell.id)) := by
      have hl := list20 fs
      rcases firstAt_idx (fun c : GCell => c.id == e.cell.id) s 0 with h | ⟨n, y, h, hy⟩
      · have h : atE s e.cell.id = -1 := h
        rw [h]; exact int0 (wf_small (by omega) (by omega))
      · have h : atE s e.cell.id = ((0 + n : Nat) : Int) := h
        have hn := (List.getElem?_eq_some_iff.1 hy).1
        have hl : (s.length : Int) ≤ 1048576 := hl
        rw [h]; exact int0 (wf_small (by omega) (by omega))
    simp only
    by_cases k2 : e.kind = 2
    · rw [if_pos k2]; exact mk_edit (num 1 (by omega) (by omega)) hat fx
    rw [if_neg k2]
    by_cases k3 : e.kind = 3
    · rw [if_pos k3]; exact mk_edit (num 3 (by omega) (by omega)) hat bare
    rw [if_neg k3]
    by_cases k4 : e.kind = 4
    · rw [if_pos k4]; exact mk_edit (num 4 (by omega) (by omega)) z (cell_bare fc.1 fx'.2.2.2.1 fx'.2.2.2.2.1 z)
    rw [if_neg k4]
    by_cases k5 : e.kind = 5
    · rw [if_pos k5]; exact mk_edit (num 5 (by omega) (by omega)) z (cell_bare fc.1 nilStr nilStr fx'.2.2.2.2.2)
    rw [if_neg k5]; exact mk_edit (num 6 (by omega) (by omega)) z bare

/-! batches -/
theorem sApplyBatch_ok (s : List GCell) (b : List GEdit) (hs : FitNb s) (hb : FitD B20 (.list (.base .edit) b)) :
    sApplyBatch (GNotebook.mk s) b = some (if bad (codes s b) = -1 then (GNotebook.mk (runE s b), -1) else (GNotebook.mk s, bad (codes s b))) := by
  have hl := nb_len hs
  have hbl := list20 hb
  have hll : b.length < 4611686018427387904 := by omega
  unfold sApplyBatch
  rw [copyS _ (by omega), Option.bind_some]
  refine list_eq (fun (s' : List GCell) (i : Nat) => ((b, s, [], s', (i : Int)) : (List GEdit) × (List GCell) × (List GCell) × (List GCell) × Int)) b
    (fun i s' => s' = runE s (b.take i) ∧ FitNb s' ∧ ∀ j, j < i → (codes s b)[j]? = some 0)
    (if bad (codes s b) = -1 then (GNotebook.mk (runE s b), -1) else (GNotebook.mk s, bad (codes s b))) (fun i x s' hx hI => ?_) (fun s' hI => ?_) s ⟨rfl, hs, fun j hj => absurd hj (Nat.not_lt_zero _)⟩
  · obtain ⟨i1, i2, i3⟩ := hI
    have hxe := hb.list_mem x (List.mem_of_getElem? hx)
    have hcg := codes_get s b i x hx
    rw [← i1] at hcg
    simp only [dec_lt hx, cond_true, idx_nat, hx, Option.bind_some, sApplyEdit_ok (GNotebook.mk s') x i2 hxe, w_succ hx hll]
    by_cases h0 : (apE s' x).2 = 0
    · refine .inl ⟨(apE s' x).1, ?_, ?_, apE_fit i2 hxe, fun j hj => ?_⟩
      · rw [h0]; rfl
      · rw [runE_take s hx, ← i1]
      · rcases Nat.lt_succ_iff_lt_or_eq.1 hj with hj | rfl
        · exact i3 j hj
        · rw [hcg, h0]
    · have hbad := bad_at i3 hcg h0
      refine .inr ⟨(GNotebook.mk s, (i : Int)), ?_, ?_⟩
      · rw [show ((apE s' x).2 != 0) = true by simpa using h0, cond_true, copyS (GNotebook.mk s) (by show (s.length : Int) ≤ _; have : (s.length : Int) ≤ 1048576 := hl; omega)]; rfl
      · rw [if_neg (by rw [hbad]; omega), hbad]
  · obtain ⟨i1, i2, i3⟩ := hI
    have hbad : bad (codes s b) = -1 := bad_none fun c hc => by
      obtain ⟨j, hj⟩ := List.getElem?_of_mem hc
      have hjl := (List.getElem?_eq_some_iff.1 hj).1
      rw [codes_len] at hjl
      rw [i3 j hjl] at hj
      simpa using hj.symm
    refine ⟨(GNotebook.mk s', -1), by simp only [nlt_self, cond_false], ?_⟩
    rw [if_pos hbad, i1, List.take_length]
theorem sApplyEdits_ok (s : List GCell) (b : List GEdit) (hs : FitNb s) (hb : FitD B20 (.list (.base .edit) b)) : sApplyEdits (GNotebook.mk s) b = some (GNotebook.mk (runE s b), codes s b) := by
  have hl := nb_len hs
  have hbl := list20 hb
  have hll : b.length < 4611686018427387904 := by omega
  unfold sApplyEdits
  rw [copyS _ (by omega), Option.bind_some]
  refine list_eq (fun (s' : List GCell × List Int) (i : Nat) => ((b, [], s'.1, s'.2, (i : Int)) : (List GEdit) × (List GCell) × (List GCell) × (List Int) × Int)) b
    (fun i s' => s'.1 = runE s (b.take i) ∧ s'.2 = codes s (b.take i) ∧ FitNb s'.1)
    ((GNotebook.mk (runE s b), codes s b)) (fun i x s' hx hI => .inl ?_) (fun s' hI => ?_) (s, []) ⟨rfl, rfl, hs⟩
  · obtain ⟨i1, i2, i3⟩ := hI
    have hi := (List.getElem?_eq_some_iff.1 hx).1
    have hxe := hb.list_mem x (List.mem_of_getElem? hx)
    have hcl : s'.2.length ≤ i := by rw [i2, codes_len, List.length_take]; omega
    refine ⟨((apE s'.1 x).1, s'.2 ++ [(apE s'.1 x).2]), ?_, ?_, ?_, apE_fit i3 hxe⟩
    · simp only [dec_lt hx, cond_true, idx_nat, hx, Option.bind_some, sApplyEdit_ok (GNotebook.mk s'.1) x i3 hxe, gd_ok (show s'.2.length + [(apE s'.1 x).2].length ≤ 34359738368 by simp; omega), w_succ hx hll]
    · rw [runE_take s hx, ← i1]
    · rw [codes_take s hx, ← i1, ← i2]
  · obtain ⟨i1, i2, i3⟩ := hI
    rw [List.take_length] at i1 i2
    exact ⟨(GNotebook.mk s'.1, s'.2), by simp only [nlt_self, cond_false], by rw [i1, i2]⟩
theorem iInverseBatch_ok (s : List GCell) (b : List GEdit) (hs : FitNb s) (hb : FitD B20 (.list (.base .edit) b)) :
    iInverseBatch (GNotebook.mk s) b = some (if bad (codes s b) = -1 then (backE s b, true) else ([], false)) := by
  have hl := nb_len hs
  have hbl := list20 hb
  have hll : b.length < 4611686018427387904 := by omega
  unfold iInverseBatch
  refine list_eq (fun (s' : List GEdit × List GCell) (i : Nat) => ((s'.2, s'.1, b, (b.length : Int), (i : Int)) : (List GCell) × (List GEdit) × (List GEdit) × Int × Int)) b
    (fun i s' => s'.2 = runE s (b.take i) ∧ s'.1 = backE s (b.take i) ∧ FitNb s'.2 ∧ ∀ j, j < i → (codes s b)[j]? = some 0)
    (if bad (codes s b) = -1 then (backE s b, true) else ([], false)) (fun i x s' hx hI => ?_) (fun s' hI => ?_) ([], s) ⟨rfl, rfl, hs, fun j hj => absurd hj (Nat.not_lt_zero _)⟩
  · obtain ⟨i1, i2, i3, i4⟩ := hI
    have hi := (List.getElem?_eq_some_iff.1 hx).1
    have hxe := hb.list_mem x (List.mem_of_getElem? hx)
    have hcg := codes_get s b i x hx
    rw [← i1] at hcg
    have hcl : s'.1.length ≤ i := by rw [i2, backE_len, List.length_take]; omega
    simp only [dec_lt hx, cond_true, idx_nat, hx, Option.bind_some, iApplyEdit_ok s'.2 x i3 hxe, iInverseEdit_ok s'.2 x i3 hxe, w_succ hx hll]
    by_cases h0 : (apE s'.2 x).2 = 0
    · rw [if_pos h0]
      refine .inl ⟨([ivE s'.2 x] ++ s'.1, (apE s'.2 x).1), ?_, ?_, ?_, apE_fit i3 hxe, fun j hj => ?_⟩
      · simp only [Bool.not_true, cond_false, gd_ok (show [ivE s'.2 x].length + s'.1.length ≤ 34359738368 by simp; omega), Option.bind_some]
      · rw [runE_take s hx, ← i1]
      · rw [backE_take s hx, ← i1, ← i2]; rfl
      · rcases Nat.lt_succ_iff_lt_or_eq.1 hj with hj | rfl
        · exact i4 j hj
        · rw [hcg, h0]
    · have hbad := bad_at i4 hcg h0
      rw [if_neg h0]
      exact .inr ⟨([], false), rfl, by rw [if_neg (by rw [hbad]; omega)]⟩
  · obtain ⟨i1, i2, i3, i4⟩ := hI
    have hbad : bad (codes s b) = -1 := bad_none fun c hc => by
      obtain ⟨j, hj⟩ := List.getElem?_of_mem hc
      have hjl := (List.getElem?_eq_some_iff.1 hj).1
      rw [codes_len] at hjl
      rw [i4 j hjl] at hj
      simpa using hj.symm
    rw [List.take_length] at i2
    exact ⟨(s'.1, true), by simp only [nlt_self, cond_false], by rw [if_pos hbad, i2]⟩
/-- a batch and its inverse bring the content back, or a version is exhausted -/
theorem batch_back : ∀ (list : List GEdit) (s t : List GCell), Nb s → (∀ e, e ∈ list → FitE e) → (∀ c, c ∈ codes s list → c = 0) → Nb t → t.map uncell = (runE s list).map uncell →
    (((∀ c, c ∈ codes t (backE s list) → c = 0) ∧ (runE t (backE s list)).map uncell = s.map uncell ∧ Nb (runE t (backE s list))) ∨
      ∃ k : Nat, (codes t (backE s list))[k]? = some 6 ∧ ∀ j, j < k → (codes t (backE s list))[j]? = some 0)
  | [], s, t, hs, _, _, ht, hc => .inl ⟨fun c h => (by cases h), hc, ht⟩
  | e :: r, s, t, hs, hf, h0, ht, hc => by
    have he0 : (apE s e).2 = 0 := h0 _ (List.mem_cons_self)
    have hef := hf e List.mem_cons_self
    have hs' := apE_nb hs hef he0
    show (((∀ c, c ∈ codes t (backE (apE s e).1 r ++ [ivE s e]) → c = 0) ∧ (runE t (backE (apE s e).1 r ++ [ivE s e])).map uncell = s.map uncell ∧ Nb (runE t (backE (apE s e).1 r ++ [ivE s e]))) ∨
      ∃ k : Nat, (codes t (backE (apE s e).1 r ++ [ivE s e]))[k]? = some 6 ∧ ∀ j, j < k → (codes t (backE (apE s e).1 r ++ [ivE s e]))[j]? = some 0)
    rw [codes_append, runE_append]
    rcases batch_back r (apE s e).1 t hs' (fun x hx => hf x (List.mem_cons_of_mem _ hx)) (fun c hc => h0 c (List.mem_cons_of_mem _ hc)) ht hc with ⟨a1, a2, a3⟩ | ⟨k, a1, a2⟩
    · have hone : codes (runE t (backE (apE s e).1 r)) [ivE s e] = [(apE (runE t (backE (apE s e).1 r)) (ivE s e)).2] := rfl
      have hrun : runE (runE t (backE (apE s e).1 r)) [ivE s e] = (apE (runE t (backE (apE s e).1 r)) (ivE s e)).1 := rfl
      rw [hone, hrun]
      rcases back_ok hs hef he0 a3 a2 with ⟨b1, b2⟩ | b1
      · refine .inl ⟨fun c hc => ?_, b2, apE_nb a3 (ivE_fit hs.fit hef) b1⟩
        rcases List.mem_append.1 hc with hc | hc
        · exact a1 c hc
        · rw [List.mem_singleton.1 hc]; exact b1
      · refine .inr ⟨(codes t (backE (apE s e).1 r)).length, ?_, fun j hj => ?_⟩
        · rw [List.getElem?_append_right (Nat.le_refl _), Nat.sub_self, b1]; rfl
        · rw [List.getElem?_append_left hj, List.getElem?_eq_getElem hj]
          rw [a1 _ (List.getElem_mem hj)]
    · have hk := (List.getElem?_eq_some_iff.1 a1).1
      refine .inr ⟨k, ?_, fun j hj => ?_⟩
      · rw [List.getElem?_append_left hk]; exact a1
      · rw [List.getElem?_append_left (by omega)]; exact a2 j hj
end Go.Proofs.Ytmadjfnpidahnaa
