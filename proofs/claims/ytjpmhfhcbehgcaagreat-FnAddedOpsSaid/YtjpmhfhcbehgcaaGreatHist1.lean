/- Plain laws with marks: ChangedVersions, NewHistory, PathTo. Plain laws: one edit; both sides alike. Plain laws: batches of edits; ApplyBatch, IsNoChange. Plain laws with marks: PathTo, NewReplica. Plain laws with marks: SeenBy. Plain laws: inverse edits and batches, copies and steps of histories; both sides alike. Plain laws: UndoEdits, RedoEdits, DoEdits. Plain laws: GoTo. -/
import Derived.Test.YtjpmhfhcbehgcaaGreatMarks
import Derived.Test.YtjpmhfhcbehgcaaGreatPlain4
import Derived.Test.YtjpmhfhcbehgcaaGreatPlain6
import Derived.Test.YtjpmhfhcbehgcaaGreatLawsD
set_option linter.unusedSimpArgs false
set_option linter.unusedVariables false
namespace Go.Proofs.YtjpmhfhcbehgcaaGreat
open Go.Abs Go.Proofs

theorem loop_foldI {α σ ρ X : Type} {g : X → Option (X ⊕ ρ)} (pk : σ → Nat → X) (xs : List α) (f : σ → α → σ) (fin : σ → ρ) (I : Nat → σ → Prop)
    (hI : ∀ i x s, xs[i]? = some x → I i s → I (i + 1) (f s x))
    (h1 : ∀ i x s, xs[i]? = some x → I i s → g (pk s i) = some (.inl (pk (f s x) (i + 1))))
    (h2 : ∀ s, I xs.length s → g (pk s xs.length) = some (.inr (fin s))) (s : σ) (h0 : I 0 s) : loopD g (pk s 0) = some (fin (xs.foldl f s)) ∧ I xs.length (xs.foldl f s) := by
  have key : ∀ (n i : Nat) (s : σ), xs.length = i + n → I i s → loopD g (pk s i) = some (fin ((xs.drop i).foldl f s)) ∧ I xs.length ((xs.drop i).foldl f s) := by
    intro n
    induction n with
    | zero =>
      intro i s hi hs
      rw [List.drop_eq_nil_of_le (by omega), loopD_eq]
      have : i = xs.length := by omega
      subst this
      rw [h2 s hs]
      exact ⟨rfl, hs⟩
    | succ n ih =>
      intro i s hi hs
      have hlt : i < xs.length := by omega
      have hx := List.getElem?_eq_getElem hlt
      rw [List.drop_eq_getElem_cons hlt, loopD_eq, h1 i xs[i] s hx hs]
      exact ih (i + 1) (f s xs[i]) (by omega) (hI i xs[i] s hx hs)
  simpa using key xs.length 0 s (by omega) h0
theorem gd_ok {n : Nat} (h : n ≤ 34359738368) : gd n = some () := by unfold gd; rw [if_pos h]
theorem firstAt_idx {α : Type} (p : α → Bool) : ∀ (xs : List α) (i : Nat), firstAt p xs i = -1 ∨ ∃ (n : Nat) (x : α), firstAt p xs i = ((i + n : Nat) : Int) ∧ xs[n]? = some x
  | [], i => .inl rfl
  | y :: ys, i => by
    unfold firstAt
    cases hp : p y with
    | true => exact .inr ⟨0, y, by simp, rfl⟩
    | false =>
      rcases firstAt_idx p ys (i + 1) with h | ⟨n, x, h, hx⟩
      · exact .inl (by simpa using h)
      · refine .inr ⟨n + 1, x, ?_, by simpa using hx⟩
        have : i + 1 + n = i + (n + 1) := by omega
        rw [← this]; simpa using h
def cvStep (bs : List GCell) (s : List Int) (c : GCell) : List Int :=
  bif decide (firstAt (fun d => d.id == c.id) bs 0 ≥ 0) then
    match idx bs (firstAt (fun d => d.id == c.id) bs 0) with
    | some d => bif (d.version != c.version) then s ++ [c.id] else s
    | none => s
  else s
theorem cvStep_len (bs : List GCell) (s : List Int) (c : GCell) : (cvStep bs s c).length ≤ s.length + 1 := by
  unfold cvStep
  cases decide (firstAt (fun d => d.id == c.id) bs 0 ≥ 0) with
  | false => simp
  | true =>
    simp only [cond_true]
    split
    · rename_i d _
      cases (d.version != c.version) <;> simp
    · simp


theorem ints_ok {w : List Int} (h : (w.length : Int) ≤ 16777216) : OkIntS w ∧ cntIntS w ≤ 16777216 := by
  refine ⟨by unfold OkIntS; omega, ?_⟩
  have := sum_le (fun _ => 1) w 1 (fun _ _ => Nat.le_refl 1)
  unfold cntIntS; omega
theorem hist_mk {x y : GHistory} (h : y.pos = x.pos) : GHistory.mk y.notebook y.nodes x.pos = y := by rw [← h]

theorem cutL_to {α : Type} (xs : List α) (n : Nat) (h : n ≤ xs.length) : eff.cutL xs none (some (n : Int)) = some (xs.take n) := by
  unfold eff.cutL
  simp only [Option.getD_none, Option.getD_some]
  rw [if_pos ⟨by omega, by omega, by omega⟩]
  simp
theorem cutL_from {α : Type} (xs : List α) (n : Nat) (h : n ≤ xs.length) : eff.cutL xs (some (n : Int)) none = some (xs.drop n) := by
  unfold eff.cutL
  simp only [Option.getD_none, Option.getD_some]
  rw [if_pos ⟨by omega, by omega, by omega⟩]
  simp

/-- a valid notebook is small, and its cells are valid -/
theorem allAt_get {α : Type} {p : α → Nat → Bool} : ∀ {xs : List α} {i : Nat}, allAt p xs i = true → ∀ (k : Nat) (x : α), xs[k]? = some x → p x (i + k) = true
  | [], i, _, k, x, h => by simp at h
  | y :: ys, i, h, k, x, hx => by
    unfold allAt at h
    rw [Bool.and_eq_true] at h
    cases k with
    | zero => simp at hx; subst hx; exact h.1
    | succ k =>
      have := allAt_get h.2 k x (by simpa using hx)
      rw [show i + (k + 1) = i + 1 + k by omega]; exact this

/-- two loops over the places of a list that go alike -/
theorem loop_both {α σ ρ X Y : Type} {g1 : X → Option (X ⊕ ρ)} {g2 : Y → Option (Y ⊕ ρ)} (pk1 : σ → Nat → X) (pk2 : σ → Nat → Y) (xs : List α) (I : Nat → σ → Prop) (R : ρ → Prop)
    (hs : ∀ i x s, xs[i]? = some x → I i s → (∃ s', g1 (pk1 s i) = some (.inl (pk1 s' (i + 1))) ∧ g2 (pk2 s i) = some (.inl (pk2 s' (i + 1))) ∧ I (i + 1) s') ∨ ∃ r, g1 (pk1 s i) = some (.inr r) ∧ g2 (pk2 s i) = some (.inr r) ∧ R r)
    (he : ∀ s, I xs.length s → ∃ r, g1 (pk1 s xs.length) = some (.inr r) ∧ g2 (pk2 s xs.length) = some (.inr r) ∧ R r) (s : σ) (h0 : I 0 s) :
    ∃ r, loopD g1 (pk1 s 0) = some r ∧ loopD g2 (pk2 s 0) = some r ∧ R r := by
  have key : ∀ (n i : Nat) (s : σ), xs.length = i + n → I i s → ∃ r, loopD g1 (pk1 s i) = some r ∧ loopD g2 (pk2 s i) = some r ∧ R r := by
    intro n
    induction n with
    | zero =>
      intro i s hi hI
      have : i = xs.length := by omega
      subst this
      obtain ⟨r, e1, e2, hR⟩ := he s hI
      refine ⟨r, ?_, ?_, hR⟩
      · rw [loopD_eq, e1]
      · rw [loopD_eq, e2]
    | succ n ih =>
      intro i s hi hI
      have hlt : i < xs.length := by omega
      rcases hs i xs[i] s (List.getElem?_eq_getElem hlt) hI with ⟨s', e1, e2, hI'⟩ | ⟨r, e1, e2, hR⟩
      · obtain ⟨r, q1, q2, hR⟩ := ih (i + 1) s' (by omega) hI'
        refine ⟨r, ?_, ?_, hR⟩
        · rw [loopD_eq, e1]; exact q1
        · rw [loopD_eq, e2]; exact q2
      · refine ⟨r, ?_, ?_, hR⟩
        · rw [loopD_eq, e1]
        · rw [loopD_eq, e2]
  exact key xs.length 0 s (by omega) h0

def uncell (c : GCell) : GCell := GCell.mk c.id 0 c.kind c.name c.code c.n
/-- a loop that turns every element in its place -/
theorem mapLoop {α X ρ : Type} {g : X → Option (X ⊕ ρ)} (pk : List α → Nat → X) (L : Nat) (f : α → α) (fin : List α → Option ρ)
    (hs : ∀ (xs : List α) (i : Nat) (x : α), xs[i]? = some x → xs.length = L → g (pk xs i) = some (.inl (pk (xs.set i (f x)) (i + 1))))
    (he : ∀ (xs : List α), xs.length = L → g (pk xs L) = (fin xs).bind fun r => some (.inr r)) (xs : List α) (hl : xs.length = L) : loopD g (pk xs 0) = fin (xs.map f) := by
  have key : ∀ (n i : Nat) (xs : List α), L = i + n → xs.length = L → loopD g (pk xs i) = fin (xs.take i ++ (xs.drop i).map f) := by
    intro n
    induction n with
    | zero =>
      intro i xs hi hl
      have : i = xs.length := by omega
      subst this
      rw [hl, loopD_eq, he xs hl]
      rw [← hl]
      simp only [List.take_length, List.drop_length, List.map_nil, List.append_nil]
      cases fin xs <;> rfl
    | succ n ih =>
      intro i xs hi hl
      have hlt : i < xs.length := by omega
      rw [loopD_eq, hs xs i xs[i] (List.getElem?_eq_getElem hlt) hl]
      simp only
      rw [ih (i + 1) (xs.set i (f xs[i])) (by omega) (by simpa using hl)]
      congr 1
      rw [List.drop_eq_getElem_cons hlt, List.map_cons]
      apply List.ext_getElem?
      intro j
      simp only [List.getElem?_append, List.getElem?_take, List.length_take, List.length_set, List.getElem?_set, List.getElem?_map, List.getElem?_drop, List.getElem?_cons]
      have m1 : min (i + 1) xs.length = i + 1 := by omega
      have m2 : min i xs.length = i := by omega
      rw [m1, m2]
      by_cases h1 : j < i
      · have a1 : j < i + 1 := by omega
        have a2 : ¬ i = j := by omega
        simp [h1, a1, a2]
      · by_cases h2 : j = i
        · subst h2; simp [hlt]
        · have a1 : ¬ j < i + 1 := by omega
          have a2 : ¬ i = i + 1 + (j - (i + 1)) := by omega
          have a3 : ¬ j - i = 0 := by omega
          have a4 : j - i - 1 = j - (i + 1) := by omega
          simp [h1, a1, a2, a3, a4]
  simpa using key L 0 xs (by omega) hl
theorem eqd_symm {α : Type} (a b : α) : eqd a b = eqd b a := by
  rw [Bool.eq_iff_iff, eqd_iff, eqd_iff]; exact eq_comm

/-- a valid history: few nodes, and every parent stands before its child -/
def HistV (a : GHistory) : Prop := 1 ≤ a.nodes.length ∧ a.nodes.length ≤ 20 ∧ (0 ≤ a.pos ∧ a.pos < a.nodes.length) ∧ ∀ (i : Nat) (x : GNode), a.nodes[i]? = some x → (i = 0 ∧ x.parent = -1) ∨ (0 ≤ x.parent ∧ x.parent < i)

theorem path_ok {X : Type} (nodes : List GNode) {g : X → Option (X ⊕ List Int)} (pk : Int → List Int → X)
    (hv : nodes.length ≤ 20 ∧ ∀ (i : Nat) (x : GNode), nodes[i]? = some x → (i = 0 ∧ x.parent = -1) ∨ (0 ≤ x.parent ∧ x.parent < i))
    (hs : ∀ (i : Nat) (x : GNode) (acc : List Int), nodes[i]? = some x → acc.length ≤ 1000 → g (pk i acc) = some (.inl (pk x.parent ([(i : Int)] ++ acc))))
    (he : ∀ acc, g (pk (-1) acc) = some (.inr acc)) : ∀ (n i : Nat) (acc : List Int), i ≤ n → i < nodes.length → acc.length + n ≤ 100 → ∃ w, loopD g (pk i acc) = some w ∧ (w.length : Int) ≤ 200 := by
  have last : ∀ acc : List Int, acc.length ≤ 200 → ∃ w, loopD g (pk (-1) acc) = some w ∧ (w.length : Int) ≤ 200 := fun acc hacc => by
    rw [loopD_eq, he]
    exact ⟨_, rfl, by omega⟩
  intro n
  induction n with
  | zero =>
    intro i acc hi hil hacc
    have hi0 : i = 0 := by omega
    subst hi0
    have hx := List.getElem?_eq_getElem hil
    rw [loopD_eq, hs 0 _ acc hx (by omega)]
    rcases hv.2 0 _ hx with ⟨_, hp⟩ | ⟨h1, h2⟩
    · simp only; rw [hp]; exact last _ (by simp; omega)
    · omega
  | succ n ih =>
    intro i acc hi hil hacc
    have hx := List.getElem?_eq_getElem hil
    rw [loopD_eq, hs i _ acc hx (by omega)]
    simp only
    rcases hv.2 i _ hx with ⟨_, hp⟩ | ⟨h1, h2⟩
    · rw [hp]; exact last _ (by simp; omega)
    · obtain ⟨p, hp⟩ := Int.eq_ofNat_of_zero_le h1
      rw [hp] at h2 ⊢
      exact ih p _ (by omega) (by omega) (by simp; omega)

theorem sSeenBy_val (a : GReplica) (h : a.ops.length < lim) : ∃ w, sSeenBy a = some w ∧ (w.length : Int) ≤ 3 ∧ ∀ x ∈ w, x = 0 ∨ ∃ n, x = w64 n := by
  obtain ⟨v0, s0, z0⟩ := sCountBy_val a.ops 0 h
  obtain ⟨v1, s1, z1⟩ := sCountBy_val a.ops 1 h
  obtain ⟨v2, s2, z2⟩ := sCountBy_val a.ops 2 h
  have g0 : gd (([] : List Int).length + [v0].length) = some () := gd_ok (by simp)
  have g1 : gd (([] ++ [v0] : List Int).length + [v1].length) = some () := gd_ok (by simp)
  have g2 : gd (([] ++ [v0] ++ [v1] : List Int).length + [v2].length) = some () := gd_ok (by simp)
  have w1 : w64 (0 + 1) = 1 := by decide
  have w2 : w64 (1 + 1) = 2 := by decide
  have w3 : w64 (2 + 1) = 3 := by decide
  refine ⟨[] ++ [v0] ++ [v1] ++ [v2], ?_, by simp, fun x hx => by
    simp at hx
    rcases hx with rfl | rfl | rfl
    · exact z0
    · exact z1
    · exact z2⟩
  · unfold sSeenBy
    rw [loopD_eq]
    simp only [show decide ((0 : Int) < 3) = true from rfl, cond_true, s0, g0, w1, Option.bind_some]
    rw [loopD_eq]
    simp only [show decide ((1 : Int) < 3) = true from rfl, cond_true, s1, g1, w2, Option.bind_some]
    rw [loopD_eq]
    simp only [show decide ((2 : Int) < 3) = true from rfl, cond_true, s2, g2, w3, Option.bind_some]
    rw [loopD_eq]
    simp only [show decide ((3 : Int) < 3) = false from rfl, cond_false]
theorem seenBy_eq2 (a : GReplica) (h : a.ops.length < lim) : ∃ w, sSeenBy a = some w ∧ iSeenBy a = some w ∧ (w.length : Int) ≤ 3 ∧ ∀ x ∈ w, x = 0 ∨ ∃ n, x = w64 n := by
  obtain ⟨v0, s0, i0, z0⟩ := countBy_eq2 a.ops 0 h
  obtain ⟨v1, s1, i1, z1⟩ := countBy_eq2 a.ops 1 h
  obtain ⟨v2, s2, i2, z2⟩ := countBy_eq2 a.ops 2 h
  have g0 : gd (([] : List Int).length + [v0].length) = some () := gd_ok (by simp)
  have g1 : gd (([] ++ [v0] : List Int).length + [v1].length) = some () := gd_ok (by simp)
  have g2 : gd (([] ++ [v0] ++ [v1] : List Int).length + [v2].length) = some () := gd_ok (by simp)
  have w1 : w64 (0 + 1) = 1 := by decide
  have w2 : w64 (1 + 1) = 2 := by decide
  have w3 : w64 (2 + 1) = 3 := by decide
  refine ⟨[] ++ [v0] ++ [v1] ++ [v2], ?_, ?_, by simp, fun x hx => by
    simp at hx
    rcases hx with rfl | rfl | rfl
    · exact z0
    · exact z1
    · exact z2⟩
  · unfold sSeenBy
    rw [loopD_eq]
    simp only [show decide ((0 : Int) < 3) = true from rfl, cond_true, s0, g0, w1, Option.bind_some]
    rw [loopD_eq]
    simp only [show decide ((1 : Int) < 3) = true from rfl, cond_true, s1, g1, w2, Option.bind_some]
    rw [loopD_eq]
    simp only [show decide ((2 : Int) < 3) = true from rfl, cond_true, s2, g2, w3, Option.bind_some]
    rw [loopD_eq]
    simp only [show decide ((3 : Int) < 3) = false from rfl, cond_false]
  · unfold iSeenBy
    rw [loopD_eq]
    simp only [show decide ((0 : Int) < 3) = true from rfl, cond_true, i0, g0, w1, Option.bind_some]
    rw [loopD_eq]
    simp only [show decide ((1 : Int) < 3) = true from rfl, cond_true, i1, g1, w2, Option.bind_some]
    rw [loopD_eq]
    simp only [show decide ((2 : Int) < 3) = true from rfl, cond_true, i2, g2, w3, Option.bind_some]
    rw [loopD_eq]
    simp only [show decide ((3 : Int) < 3) = false from rfl, cond_false]
theorem seenBy_eq (a : GReplica) (h : a.ops.length < lim) : ∃ w, sSeenBy a = some w ∧ iSeenBy a = some w ∧ (w.length : Int) ≤ 3 := by
  obtain ⟨w, e1, e2, e3, _⟩ := seenBy_eq2 a h
  exact ⟨w, e1, e2, e3⟩

theorem foldl_snoc {α : Type} : ∀ (xs acc : List α), xs.foldl (fun s x => s ++ [x]) acc = acc ++ xs
  | [], acc => by simp
  | x :: xs, acc => by rw [List.foldl_cons, foldl_snoc xs]; simp
theorem int0 {n : Int} (h : (Lit.int .i64 n).wf = true) : FitD B20 (.int .i64 n) := .int .i64 _ h
theorem wf_small {n : Int} (h0 : -1000000000 ≤ n) (h1 : n ≤ 1000000000) : (Lit.int .i64 n).wf = true := by
  unfold Lit.wf
  simp [IntKind.bits, IntKind.signed, IntKind.min, IntKind.max]
  omega
theorem nilStr : FitD B20 (.str []) := mkStr20 (by simp)
theorem cell_bare {id : Int} (h : FitD B20 (.int .i64 id)) {nm cd : Str} {n : Int} (h1 : FitD B20 (.str nm)) (h2 : FitD B20 (.str cd)) (h3 : FitD B20 (.int .i64 n)) : Fit B20 (.base .cell) (GCell.mk id 0 0 nm cd n) := by
  rw [fit_cell]
  exact ⟨h, int0 (wf_small (n := 0) (by omega) (by omega)), int0 (wf_small (n := 0) (by omega) (by omega)), h1, h2, h3⟩
theorem mk_edit {k p : Int} {c : GCell} (h1 : FitD B20 (.int .i64 k)) (h2 : FitD B20 (.int .i64 p)) (h3 : Fit B20 (.base .cell) c) : Fit B20 (.base .edit) (GEdit.mk k p c) := by
  rw [fit_edit]; exact ⟨h1, h2, h3⟩
theorem loop_three {α σ ρ ρ' X Y Z : Type} {g1 : X → Option (X ⊕ ρ)} {g2 : Y → Option (Y ⊕ ρ)} {g3 : Z → Option (Z ⊕ ρ')} (pk1 : σ → Nat → X) (pk2 : σ → Nat → Y) (pk3 : σ → Nat → Z) (xs : List α) (I : Nat → σ → Prop) (R : ρ → ρ' → Prop)
    (hs : ∀ i x s, xs[i]? = some x → I i s → (∃ s', g1 (pk1 s i) = some (.inl (pk1 s' (i + 1))) ∧ g2 (pk2 s i) = some (.inl (pk2 s' (i + 1))) ∧ g3 (pk3 s i) = some (.inl (pk3 s' (i + 1))) ∧ I (i + 1) s') ∨
      ∃ r r', g1 (pk1 s i) = some (.inr r) ∧ g2 (pk2 s i) = some (.inr r) ∧ g3 (pk3 s i) = some (.inr r') ∧ R r r')
    (he : ∀ s, I xs.length s → ∃ r r', g1 (pk1 s xs.length) = some (.inr r) ∧ g2 (pk2 s xs.length) = some (.inr r) ∧ g3 (pk3 s xs.length) = some (.inr r') ∧ R r r') (s : σ) (h0 : I 0 s) :
    ∃ r r', loopD g1 (pk1 s 0) = some r ∧ loopD g2 (pk2 s 0) = some r ∧ loopD g3 (pk3 s 0) = some r' ∧ R r r' := by
  have key : ∀ (n i : Nat) (s : σ), xs.length = i + n → I i s → ∃ r r', loopD g1 (pk1 s i) = some r ∧ loopD g2 (pk2 s i) = some r ∧ loopD g3 (pk3 s i) = some r' ∧ R r r' := by
    intro n
    induction n with
    | zero =>
      intro i s hi hI
      have : i = xs.length := by omega
      subst this
      obtain ⟨r, r', e1, e2, e3, hR⟩ := he s hI
      refine ⟨r, r', ?_, ?_, ?_, hR⟩
      · rw [loopD_eq, e1]
      · rw [loopD_eq, e2]
      · rw [loopD_eq, e3]
    | succ n ih =>
      intro i s hi hI
      have hlt : i < xs.length := by omega
      rcases hs i xs[i] s (List.getElem?_eq_getElem hlt) hI with ⟨s', e1, e2, e3, hI'⟩ | ⟨r, r', e1, e2, e3, hR⟩
      · obtain ⟨r, r', q1, q2, q3, hR⟩ := ih (i + 1) s' (by omega) hI'
        refine ⟨r, r', ?_, ?_, ?_, hR⟩
        · rw [loopD_eq, e1]; exact q1
        · rw [loopD_eq, e2]; exact q2
        · rw [loopD_eq, e3]; exact q3
      · refine ⟨r, r', ?_, ?_, ?_, hR⟩
        · rw [loopD_eq, e1]
        · rw [loopD_eq, e2]
        · rw [loopD_eq, e3]
  exact key xs.length 0 s (by omega) h0
theorem edits_nil : FitD B20 (.list (.base .edit) []) := mkList20 (by simp) fun x hx => by cases hx


theorem path_sorted {X : Type} (nodes : List GNode) {g : X → Option (X ⊕ List Int)} (pk : Int → List Int → X)
    (hv : nodes.length ≤ 20 ∧ ∀ (i : Nat) (x : GNode), nodes[i]? = some x → (i = 0 ∧ x.parent = -1) ∨ (0 ≤ x.parent ∧ x.parent < i))
    (hs : ∀ (i : Nat) (x : GNode) (acc : List Int), nodes[i]? = some x → acc.length ≤ 1000 → g (pk i acc) = some (.inl (pk x.parent ([(i : Int)] ++ acc))))
    (he : ∀ acc, g (pk (-1) acc) = some (.inr acc)) : ∀ (n i : Nat) (acc : List Int), i ≤ n → i < nodes.length → acc.length + n ≤ 100 → acc.Pairwise (· < ·) → (∀ x ∈ acc, (i : Int) < x) →
      ∃ w, loopD g (pk i acc) = some w ∧ w.Pairwise (· < ·) := by
  have last : ∀ acc : List Int, acc.Pairwise (· < ·) → ∃ w, loopD g (pk (-1) acc) = some w ∧ w.Pairwise (· < ·) := fun acc hacc => by
    rw [loopD_eq, he]
    exact ⟨_, rfl, hacc⟩
  have one : ∀ (i : Nat) (acc : List Int), acc.Pairwise (· < ·) → (∀ x ∈ acc, (i : Int) < x) → ([(i : Int)] ++ acc).Pairwise (· < ·) := fun i acc h1 h2 => by
    rw [List.singleton_append, List.pairwise_cons]; exact ⟨h2, h1⟩
  intro n
  induction n with
  | zero =>
    intro i acc hi hil hacc hp1 hp2
    have hi0 : i = 0 := by omega
    subst hi0
    have hx := List.getElem?_eq_getElem hil
    rw [loopD_eq, hs 0 _ acc hx (by omega)]
    rcases hv.2 0 _ hx with ⟨_, hp⟩ | ⟨h1, h2⟩
    · simp only; rw [hp]; exact last _ (one 0 acc hp1 hp2)
    · omega
  | succ n ih =>
    intro i acc hi hil hacc hp1 hp2
    have hx := List.getElem?_eq_getElem hil
    rw [loopD_eq, hs i _ acc hx (by omega)]
    simp only
    rcases hv.2 i _ hx with ⟨_, hp⟩ | ⟨h1, h2⟩
    · rw [hp]; exact last _ (one i acc hp1 hp2)
    · obtain ⟨p, hp⟩ := Int.eq_ofNat_of_zero_le h1
      rw [hp] at h2 ⊢
      refine ih p _ (by omega) (by omega) (by simp; omega) (one i acc hp1 hp2) fun x hx => ?_
      rw [List.singleton_append, List.mem_cons] at hx
      rcases hx with hx | hx
      · omega
      · have := hp2 x hx; omega
/-- the list has the number -/
def hasI (xs : List Int) (b : Int) : Bool := !(xs.all fun x => !(x == b))
theorem hasI_get {xs : List Int} {b : Int} (h : hasI xs b = true) : ∃ j : Nat, xs[j]? = some b := by
  simp [hasI] at h
  exact List.mem_iff_getElem?.1 h
theorem sorted_get {xs : List Int} (h : xs.Pairwise (· < ·)) {i j : Nat} {x y : Int} (hx : xs[i]? = some x) (hy : xs[j]? = some y) (hij : i < j) : x < y := by
  obtain ⟨hi, hx⟩ := List.getElem?_eq_some_iff.1 hx
  obtain ⟨hj, hy⟩ := List.getElem?_eq_some_iff.1 hy
  rw [← hx, ← hy]
  exact List.pairwise_iff_getElem.1 h i j hi hj hij
abbrev GoR (r : GHistory × Bool) : Prop := Fit B20 (.base .history) r.1
theorem loop_two {σ ρ X Y : Type} {g1 : X → Option (X ⊕ ρ)} {g2 : Y → Option (Y ⊕ ρ)} (pk1 : σ → X) (pk2 : σ → Y) (I : Nat → σ → Prop) (R : ρ → Prop)
    (hs : ∀ n s, I n s → (∃ s' m, m < n ∧ I m s' ∧ g1 (pk1 s) = some (.inl (pk1 s')) ∧ g2 (pk2 s) = some (.inl (pk2 s'))) ∨ ∃ r, g1 (pk1 s) = some (.inr r) ∧ g2 (pk2 s) = some (.inr r) ∧ R r) :
    ∀ n s, I n s → ∃ r, loopD g1 (pk1 s) = some r ∧ loopD g2 (pk2 s) = some r ∧ R r := by
  intro n
  induction n using Nat.strongRecOn with
  | ind n ih =>
    intro s hI
    rcases hs n s hI with ⟨s', m, hm, hI', e1, e2⟩ | ⟨r, e1, e2, hR⟩
    · obtain ⟨r, q1, q2, hR⟩ := ih m hm s' hI'
      exact ⟨r, by rw [loopD_eq, e1]; exact q1, by rw [loopD_eq, e2]; exact q2, hR⟩
    · exact ⟨r, by rw [loopD_eq, e1], by rw [loopD_eq, e2], hR⟩
theorem bindInr {X Y ρ : Type} {A B : Option ρ} {R : ρ → Prop} (h : ∃ r, A = some r ∧ B = some r ∧ R r) :
    ∃ r, (A.bind fun r => some ((.inr r : X ⊕ ρ))) = some (.inr r) ∧ (B.bind fun r => some ((.inr r : Y ⊕ ρ))) = some (.inr r) ∧ R r := by
  obtain ⟨r, e1, e2, h⟩ := h
  exact ⟨r, by rw [e1]; rfl, by rw [e2]; rfl, h⟩
end Go.Proofs.YtjpmhfhcbehgcaaGreat
