/- Plain laws: the pure form of an edit. Plain laws: the inverse of an edit brings the content back. Plain laws: the pure form of batches; a batch and its inverse. Plain laws: drawn notebooks, edits and batches. Plain laws: FnBatches, FnInverseBatches. -/
import Derived.Test.YtjpmhfhcbehgcaaGreatHist1
import Derived.Test.YtjpmhfhcbehgcaaGreatExpr1
import Derived.Test.YtjpmhfhcbehgcaaGreatDr1
set_option linter.unusedSimpArgs false
set_option linter.unusedVariables false
namespace Go.Proofs.YtjpmhfhcbehgcaaGreat
open Go.Abs Go.Proofs

def ins {α : Type} (xs : List α) (n : Nat) (c : α) : List α := xs.take n ++ [c] ++ xs.drop n
def del {α : Type} (xs : List α) (n : Nat) : List α := xs.take n ++ xs.drop (n + 1)
def clampN (l : Nat) (p : Int) : Nat := min l p.toNat
def atE (cs : List GCell) (id : Int) : Int := firstAt (fun c => c.id == id) cs 0
theorem wf_succ {n : Int} (h0 : 1 ≤ n) (h1 : n ≤ 999) : FitD B20 (.int .i64 (n + 1)) := .int .i64 _ (by
  unfold Lit.wf
  simp [IntKind.bits, IntKind.signed, IntKind.min, IntKind.max]
  omega)
theorem map_ins {α β : Type} (f : α → β) (xs : List α) (n : Nat) (c : α) : (ins xs n c).map f = ins (xs.map f) n (f c) := by
  unfold ins; simp [List.map_take, List.map_drop]
theorem map_del {α β : Type} (f : α → β) (xs : List α) (n : Nat) : (del xs n).map f = del (xs.map f) n := by
  unfold del; simp [List.map_take, List.map_drop]
theorem len_ins {α : Type} (xs : List α) (n : Nat) (c : α) (h : n ≤ xs.length) : (ins xs n c).length = xs.length + 1 := by
  unfold ins; simp; omega
theorem len_del {α : Type} (xs : List α) (n : Nat) (h : n < xs.length) : (del xs n).length + 1 = xs.length := by
  unfold del; simp; omega
theorem del_ins {α : Type} (xs : List α) (n : Nat) (c : α) (h : n ≤ xs.length) : del (ins xs n c) n = xs := by
  unfold del ins
  have e1 : (xs.take n ++ [c] ++ xs.drop n).take n = xs.take n := by
    rw [List.append_assoc]; exact List.take_left' (by simp; omega)
  have e2 : (xs.take n ++ [c] ++ xs.drop n).drop (n + 1) = xs.drop n := List.drop_left' (by simp; omega)
  rw [e1, e2, List.take_append_drop]
theorem get_ins {α : Type} (xs : List α) (n : Nat) (c : α) (h : n ≤ xs.length) : (ins xs n c)[n]? = some c := by
  unfold ins
  rw [List.append_assoc, List.getElem?_append_right (by simp; omega)]
  simp [show min n xs.length = n by omega]
theorem ins_del {α : Type} (xs : List α) (n : Nat) (x : α) (h : xs[n]? = some x) : ins (del xs n) n x = xs := by
  obtain ⟨hn, rfl⟩ := List.getElem?_eq_some_iff.1 h
  unfold del ins
  have e1 : (xs.take n ++ xs.drop (n + 1)).take n = xs.take n := List.take_left' (by simp; omega)
  have e2 : (xs.take n ++ xs.drop (n + 1)).drop n = xs.drop (n + 1) := List.drop_left' (by simp; omega)
  rw [e1, e2, List.append_assoc, List.singleton_append, ← List.drop_eq_getElem_cons hn, List.take_append_drop]
theorem ins_perm {α : Type} (xs : List α) (n : Nat) (c : α) : (ins xs n c).Perm (c :: xs) := by
  unfold ins
  have := @List.perm_middle _ c (xs.take n) (xs.drop n)
  rw [List.take_append_drop] at this
  rw [List.append_assoc]; exact this
theorem mem_ins {α : Type} {xs : List α} {n : Nat} {c y : α} (h : y ∈ ins xs n c) : y = c ∨ y ∈ xs := List.mem_cons.1 ((ins_perm xs n c).mem_iff.1 h)
theorem mem_del {α : Type} {xs : List α} {n : Nat} {y : α} (h : y ∈ del xs n) : y ∈ xs := by
  rcases List.mem_append.1 h with h | h
  · exact List.mem_of_mem_take h
  · exact List.mem_of_mem_drop h
theorem nodup_ins {α : Type} (xs : List α) (n : Nat) (c : α) : (ins xs n c).Nodup ↔ ¬ c ∈ xs ∧ xs.Nodup := by
  rw [(ins_perm xs n c).nodup_iff, List.nodup_cons]
theorem nodup_del {α : Type} {xs : List α} (n : Nat) (h : xs.Nodup) : (del xs n).Nodup := by
  refine List.Sublist.nodup (l₂ := xs) ?_ h
  unfold del
  have h1 : (xs.take n ++ xs.drop (n + 1)).Sublist (xs.take n ++ xs.drop n) := List.Sublist.append (List.Sublist.refl _) (List.drop_sublist_drop_left xs (Nat.le_succ n))
  rw [List.take_append_drop] at h1
  exact h1
theorem firstAt_cases {α : Type} (p : α → Bool) : ∀ (xs : List α) (i : Nat), (firstAt p xs i = -1 ∧ ∀ x, x ∈ xs → p x = false) ∨
    ∃ (n : Nat) (x : α), firstAt p xs i = ((i + n : Nat) : Int) ∧ xs[n]? = some x ∧ p x = true ∧ ∀ (m : Nat) (y : α), m < n → xs[m]? = some y → p y = false
  | [], i => .inl ⟨rfl, fun x hx => (by cases hx)⟩
  | x :: r, i => by
    unfold firstAt
    cases hx : p x with
    | true => exact .inr ⟨0, x, rfl, rfl, hx, fun m y hm => absurd hm (Nat.not_lt_zero _)⟩
    | false =>
      rcases firstAt_cases p r (i + 1) with ⟨h1, h2⟩ | ⟨n, y, h1, h2, h3, h4⟩
      · refine .inl ⟨h1, fun y hy => ?_⟩
        rcases List.mem_cons.1 hy with rfl | hy
        · exact hx
        · exact h2 y hy
      · refine .inr ⟨n + 1, y, ?_, by simpa using h2, h3, fun m z hm hz => ?_⟩
        · simp only [cond_false]; rw [h1]; congr 1; omega
        · cases m with
          | zero => simp at hz; subst hz; exact hx
          | succ m => exact h4 m z (by omega) (by simpa using hz)
theorem firstAt_map {α β : Type} (f : α → β) (p : β → Bool) : ∀ (xs : List α) (i : Nat), firstAt (fun x => p (f x)) xs i = firstAt p (xs.map f) i
  | [], _ => rfl
  | x :: r, i => by rw [List.map_cons]; unfold firstAt; rw [firstAt_map f p r]
def ids (s : List GCell) : List Int := s.map (·.id)
def atI (l : List Int) (v : Int) : Int := firstAt (fun c => c == v) l 0
theorem atE_ids (s : List GCell) (v : Int) : atE s v = atI (ids s) v := firstAt_map (fun x : GCell => x.id) (fun c => c == v) s 0
theorem atI_of {l : List Int} (h : l.Nodup) {n : Nat} {v : Int} (hv : l[n]? = some v) : atI l v = (n : Int) := by
  unfold atI
  rcases firstAt_cases (fun c => c == v) l 0 with ⟨h1, h2⟩ | ⟨m, y, h1, h2, h3, h4⟩
  · have := h2 v (List.mem_of_getElem? hv)
    simp at this
  · have hy := eq_of_beq h3
    subst hy
    rw [h1, Nat.zero_add]
    have : m = n := by
      obtain ⟨hm, em⟩ := List.getElem?_eq_some_iff.1 h2
      obtain ⟨hn, en⟩ := List.getElem?_eq_some_iff.1 hv
      have pw := List.pairwise_iff_getElem.1 h
      rcases Nat.lt_trichotomy m n with q | q | q
      · exact absurd (em.trans en.symm) (pw m n hm hn q)
      · exact q
      · exact absurd (en.trans em.symm) (pw n m hn hm q)
    rw [this]
theorem atI_none {l : List Int} {v : Int} (h : ¬ v ∈ l) : atI l v = -1 := by
  unfold atI
  rcases firstAt_cases (fun c => c == v) l 0 with ⟨h1, _⟩ | ⟨m, y, h1, h2, h3, _⟩
  · exact h1
  · have hy := eq_of_beq h3
    subst hy
    exact absurd (List.mem_of_getElem? h2) h
theorem atI_neg {l : List Int} {v : Int} (h : atI l v < 0) : ¬ v ∈ l := by
  unfold atI at h
  rcases firstAt_cases (fun c => c == v) l 0 with ⟨_, h2⟩ | ⟨m, y, h1, _⟩
  · intro hv
    have := h2 v hv
    simp at this
  · rw [h1] at h; omega
theorem nodup_of {l : List Int} (h : ∀ (k : Nat) (v : Int), l[k]? = some v → atI l v = (k : Int)) : l.Nodup := by
  refine List.pairwise_iff_getElem.2 fun i j hi hj hij he => ?_
  have h1 := h i l[i] (List.getElem?_eq_getElem hi)
  have h2 := h j l[j] (List.getElem?_eq_getElem hj)
  rw [he] at h1
  omega

theorem allAt_of' {α : Type} {p : α → Nat → Bool} : ∀ {xs : List α} {i : Nat}, (∀ (k : Nat) (x : α), xs[k]? = some x → p x (i + k) = true) → allAt p xs i = true
  | [], i, _ => rfl
  | y :: ys, i, h => by
    unfold allAt
    rw [Bool.and_eq_true]
    refine ⟨h 0 y rfl, allAt_of' fun k x hx => ?_⟩
    have := h (k + 1) x (by simpa using hx)
    rw [show i + 1 + k = i + (k + 1) by omega]; exact this
theorem allAt_of {α : Type} {p : α → Nat → Bool} {xs : List α} (h : ∀ (k : Nat) (x : α), xs[k]? = some x → p x k = true) : allAt p xs 0 = true :=
  allAt_of' fun k x hx => by rw [Nat.zero_add]; exact h k x hx

/-! content -/
theorem uncell_iff {x y : GCell} : uncell x = uncell y ↔ x.id = y.id ∧ x.kind = y.kind ∧ x.name = y.name ∧ x.code = y.code ∧ x.n = y.n := by
  unfold uncell
  constructor
  · intro h
    injection h with h1 _ h2 h3 h4 h5
    exact ⟨h1, h2, h3, h4, h5⟩
  · rintro ⟨h1, h2, h3, h4, h5⟩
    rw [h1, h2, h3, h4, h5]
theorem ids_get {s : List GCell} {n : Nat} {x : GCell} (h : s[n]? = some x) : (ids s)[n]? = some x.id := by unfold ids; rw [List.getElem?_map, h]; rfl
theorem ids_set {s : List GCell} {n : Nat} {x y : GCell} (h : s[n]? = some x) (he : y.id = x.id) : ids (s.set n y) = ids s := by
  unfold ids
  rw [List.map_set]
  apply List.ext_getElem?
  intro i
  rw [List.getElem?_set]
  by_cases q : n = i
  · subst q
    have hn := (List.getElem?_eq_some_iff.1 h).1
    rw [if_pos rfl, if_pos (by simpa using hn), List.getElem?_map, h, he]; rfl
  · rw [if_neg q]
/-- the inverse edit -/
def ivE (s : List GCell) (e : GEdit) : GEdit :=
  if e.kind = 1 then GEdit.mk 2 0 (GCell.mk e.cell.id 0 0 [] [] 0)
  else match s[(atE s e.cell.id).toNat]? with
    | none => GEdit.mk 0 0 (GCell.mk 0 0 0 [] [] 0)
    | some x =>
      if e.kind = 2 then GEdit.mk 1 (atE s e.cell.id) x
      else if e.kind = 3 then GEdit.mk 3 (atE s e.cell.id) (GCell.mk e.cell.id 0 0 [] [] 0)
      else if e.kind = 4 then GEdit.mk 4 0 (GCell.mk e.cell.id 0 0 x.name x.code 0)
      else if e.kind = 5 then GEdit.mk 5 0 (GCell.mk e.cell.id 0 0 [] [] x.n)
      else GEdit.mk 6 0 (GCell.mk e.cell.id 0 0 [] [] 0)
theorem set_ct {s : List GCell} {n : Nat} {x y : GCell} (h : s[n]? = some x) (he : uncell y = uncell x) {z : GCell} : ((s.map uncell).set n z).set n (uncell y) = s.map uncell := by
  rw [List.set_set, he]
  apply List.ext_getElem?
  intro i
  rw [List.getElem?_set]
  by_cases q : n = i
  · subst q
    have hn := (List.getElem?_eq_some_iff.1 h).1
    rw [if_pos rfl, if_pos (by simpa using hn), List.getElem?_map, h]; rfl
  · rw [if_neg q]

/-- a loop over a list with a known result -/
theorem list_eq {α X ρ σ : Type} {g : X → Option (X ⊕ ρ)} (pk : σ → Nat → X) (xs : List α) (I : Nat → σ → Prop) (R : ρ)
    (hs : ∀ i x s, xs[i]? = some x → I i s → (∃ s', g (pk s i) = some (.inl (pk s' (i + 1))) ∧ I (i + 1) s') ∨ ∃ r, g (pk s i) = some (.inr r) ∧ r = R)
    (hf : ∀ s, I xs.length s → ∃ r, g (pk s xs.length) = some (.inr r) ∧ r = R) (s : σ) (h0 : I 0 s) : loopD g (pk s 0) = some R := by
  obtain ⟨r, e, h⟩ := list_ex pk xs I (fun r => r = R) hs hf s h0
  rw [e, h]
abbrev FitNb (s : List GCell) : Prop := Fit B20 (.base .notebook) (GNotebook.mk s)
abbrev FitE (e : GEdit) : Prop := Fit B20 (.base .edit) e
def bad (l : List Int) : Int := firstAt (fun c => c != 0) l 0
theorem bad_none {l : List Int} (h : ∀ c, c ∈ l → c = 0) : bad l = -1 := by
  unfold bad
  rcases firstAt_cases (fun c : Int => c != 0) l 0 with ⟨h1, _⟩ | ⟨n, x, h1, h2, h3, _⟩
  · exact h1
  · have := h x (List.mem_of_getElem? h2)
    subst this
    cases h3
theorem bad_at {l : List Int} {i : Nat} {c : Int} (h : ∀ j, j < i → l[j]? = some 0) (hc : l[i]? = some c) (h0 : c ≠ 0) : bad l = (i : Int) := by
  unfold bad
  rcases firstAt_cases (fun c : Int => c != 0) l 0 with ⟨_, h2⟩ | ⟨n, x, h1, h2, h3, h4⟩
  · have := h2 c (List.mem_of_getElem? hc)
    exact absurd (by simpa using this) h0
  · rw [h1, Nat.zero_add]
    have hx : x ≠ 0 := by simpa using h3
    have : n = i := by
      rcases Nat.lt_trichotomy n i with q | q | q
      · have := h n q
        rw [h2] at this
        exact absurd (by simpa using this) hx
      · exact q
      · have := h4 i c q hc
        exact absurd (by simpa using this) h0
    rw [this]
theorem bad_zero {l : List Int} (h : bad l = -1) : ∀ c, c ∈ l → c = 0 := by
  unfold bad at h
  rcases firstAt_cases (fun c : Int => c != 0) l 0 with ⟨_, h2⟩ | ⟨n, x, h1, _⟩
  · intro c hc
    simpa using h2 c hc
  · rw [h1] at h; omega
theorem bad_cases (l : List Int) : (bad l = -1 ∧ ∀ c, c ∈ l → c = 0) ∨ ∃ n c, bad l = ((n : Nat) : Int) ∧ l[n]? = some c ∧ c ≠ 0 := by
  rcases firstAt_cases (fun c : Int => c != 0) l 0 with ⟨h1, h2⟩ | ⟨n, x, h1, h2, h3, _⟩
  · exact .inl ⟨h1, fun c hc => by simpa using h2 c hc⟩
  · exact .inr ⟨n, x, by unfold bad; rw [h1, Nat.zero_add], h2, by simpa using h3⟩

theorem Dr.join {X β : Type} {p : Option (X ⊕ (GCur × β))} {P : X → Prop} {k : X → Option (GCur × β)} {Q : β → Prop} (hp : ∃ st, p = some (.inl st) ∧ P st) (hk : ∀ st, P st → Dr (k st) Q) : Dr (joinD p k) Q := by
  obtain ⟨st, e, h⟩ := hp
  rw [e]
  exact hk st h
theorem ex_join {X ρ : Type} {p : Option (X ⊕ ρ)} {P : X → Prop} {k : X → Option ρ} {G : Option ρ → Prop} (hp : ∃ st, p = some (.inl st) ∧ P st) (hk : ∀ st, P st → G (k st)) : G (joinD p k) := by
  obtain ⟨st, e, h⟩ := hp
  rw [e]
  exact hk st h
abbrev CellF (x : GCell) : Prop := Fit B20 (.base .cell) x
abbrev I64 (n : Int) : Prop := FitD B20 (.int .i64 n)
theorem i64 {n : Int} (h0 : -1000000000 ≤ n) (h1 : n ≤ 1000000000) : I64 n := intB h0 h1
theorem cellF_mk {id v k n : Int} {nm cd : Str} : CellF (GCell.mk id v k nm cd n) ↔ I64 id ∧ I64 v ∧ I64 k ∧ FitD B20 (.str nm) ∧ FitD B20 (.str cd) ∧ I64 n := by
  show Fit B20 (.base .cell) _ ↔ _
  rw [fit_cell]
theorem cellF_iff {x : GCell} : CellF x ↔ I64 x.id ∧ I64 x.version ∧ I64 x.kind ∧ FitD B20 (.str x.name) ∧ FitD B20 (.str x.code) ∧ I64 x.n := by
  show Fit B20 (.base .cell) _ ↔ _
  rw [fit_cell]
theorem editF {k p : Int} {x : GCell} (h1 : I64 k) (h2 : I64 p) (h3 : CellF x) : FitE (GEdit.mk k p x) := by
  show Fit B20 (.base .edit) _
  rw [fit_edit]; exact ⟨h1, h2, h3⟩
/-- a drawn notebook -/
structure NbD (m : Nat) (x : GNotebook) : Prop where
  len : x.cells.length ≤ m
  fit : ∀ c, c ∈ x.cells → CellF c
theorem w64_nat {n : Nat} (h : n ≤ 1000000) : w64 ((n : Int) + 1) = ((n + 1 : Nat) : Int) := by rw [w64_id (by omega) (by omega)]; omega
theorem cellD_fit {id : Int} {x : GCell} (h : CellD id x) : CellF x := h.fit
abbrev T13 : Type := (List Int) × Int × Int × Int × Int × Int × Int × Int × Str × Str × Int × Int × Int × Int × Int × Int × Str × Str × Int × Int × Int × Int × Str × Str × Int × Int × Int × Int × Str × Str × Int
abbrev T9 : Type := (List Int) × Int × Int × Int × Int × Int × Int × Int × Str × Str × Int × Int × Int × Int × Int × Int × Str × Str × Int × Int × Int × Int × Str × Str × Int

theorem big_then {a : List Int} (ha : FitD B47 (.list (.base .u8) a)) {k : Option Bool} (hk : (a.length : Int) ≤ 1048576 → k = some true) : ((big a).bind fun r1 => bif r1 then some (true) else k) = some true := by
  unfold big
  rw [Option.bind_some]
  by_cases h : (a.length : Int) > 1048576
  · rw [decide_eq_true h]; rfl
  · rw [decide_eq_false h]; exact hk (by omega)
/-- a loop that counts down -/
theorem down_ex {X ρ σ : Type} {g : X → Option (X ⊕ ρ)} (pk : σ → Int → X) (I : Int → σ → Prop) (R : ρ)
    (hs : ∀ (i : Nat) s, I (i : Int) s → ∃ s', g (pk s (i : Int)) = some (.inl (pk s' ((i : Int) - 1))) ∧ I ((i : Int) - 1) s')
    (hf : ∀ s, I (-1) s → g (pk s (-1)) = some (.inr R)) : ∀ (n : Nat) (s : σ), I ((n : Int) - 1) s → loopD g (pk s ((n : Int) - 1)) = some R := by
  intro n
  induction n with
  | zero =>
    intro s h
    have : ((0 : Nat) : Int) - 1 = -1 := rfl
    rw [this] at h ⊢
    rw [loopD_eq, hf s h]
  | succ n ih =>
    intro s h
    have e : ((n + 1 : Nat) : Int) - 1 = (n : Int) := by omega
    rw [e] at h ⊢
    obtain ⟨s', e1, h'⟩ := hs n s h
    rw [loopD_eq, e1]
    exact ih s' h'
theorem edits20_list {l : List GEdit} (hl : l.length ≤ 100) (h : ∀ e, e ∈ l → FitE e) : FitD B20 (.list (.base .edit) l) := mkList20 (by omega) h
/-- the first code that is not zero, from the place i on -/
def badFrom (l : List Int) (i : Nat) : Int := firstAt (fun c => c != 0) (l.drop i) i
theorem badFrom_step {l : List Int} {i : Nat} {c : Int} (h : l[i]? = some c) : badFrom l i = bif c != 0 then (i : Int) else badFrom l (i + 1) := by
  obtain ⟨hi, rfl⟩ := List.getElem?_eq_some_iff.1 h
  unfold badFrom
  rw [List.drop_eq_getElem_cons hi]
  rfl
theorem badFrom_end (l : List Int) : badFrom l l.length = -1 := by
  unfold badFrom
  rw [List.drop_length]; rfl
end Go.Proofs.YtjpmhfhcbehgcaaGreat
