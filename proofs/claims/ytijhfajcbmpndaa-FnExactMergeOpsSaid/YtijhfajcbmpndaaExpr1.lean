/- Plain laws: expressions of the reference: sizes, validity, text; every function is total. Plain laws: the text of numbers and of expressions of the reference: total, and short. -/
import Derived.Test.YtijhfajcbmpndaaLawsD
import Derived.Test.YtijhfajcbmpndaaOps1
set_option linter.unusedSimpArgs false
set_option linter.unusedVariables false
namespace Go.Proofs.Ytijhfajcbmpndaa
open Go.Abs Go.Proofs

theorem sizE_args {e : GExpr} : siz e.args < siz e := by
  cases e; simp only [siz]; rw [GExpr.mk.sizeOf_spec]; omega
theorem sizE_mem {x : GExpr} {xs : List GExpr} (h : x ∈ xs) : siz x + 1 ≤ siz xs := by
  have := List.sizeOf_lt_of_mem h
  simp only [siz]; omega
theorem sizE_arg {x e : GExpr} (h : x ∈ e.args) : siz x + 2 ≤ siz e := by
  have := sizE_mem h
  have := sizE_args (e := e)
  omega
/-- a loop that counts over a list and may leave early; what it hands back -/
theorem list_ex {α X ρ σ : Type} {g : X → Option (X ⊕ ρ)} (pk : σ → Nat → X) (xs : List α) (I : Nat → σ → Prop) (R : ρ → Prop)
    (hs : ∀ i x s, xs[i]? = some x → I i s → (∃ s', g (pk s i) = some (.inl (pk s' (i + 1))) ∧ I (i + 1) s') ∨ ∃ r, g (pk s i) = some (.inr r) ∧ R r)
    (hf : ∀ s, I xs.length s → ∃ r, g (pk s xs.length) = some (.inr r) ∧ R r) (s : σ) (h0 : I 0 s) : ∃ r, loopD g (pk s 0) = some r ∧ R r := by
  have key : ∀ (k i : Nat) (s : σ), xs.length = i + k → I i s → ∃ r, loopD g (pk s i) = some r ∧ R r := by
    intro k
    induction k with
    | zero =>
      intro i s hi hI
      have : i = xs.length := by omega
      subst this
      obtain ⟨r, e, hR⟩ := hf s hI
      exact ⟨r, by rw [loopD_eq, e], hR⟩
    | succ k ih =>
      intro i s hi hI
      have hlt : i < xs.length := by omega
      rcases hs i _ s (List.getElem?_eq_getElem hlt) hI with ⟨s', e, hI'⟩ | ⟨r, e, hR⟩
      · obtain ⟨r, e', hR⟩ := ih (i + 1) s' (by omega) hI'
        exact ⟨r, by rw [loopD_eq, e]; exact e', hR⟩
      · exact ⟨r, by rw [loopD_eq, e], hR⟩
  exact key xs.length 0 s (by omega) h0
theorem expr_eta (x : GExpr) : GExpr.mk x.kind x.n x.text x.args = x := by cases x; rfl
theorem sum_take {α : Type} (f : α → Nat) {xs : List α} {i : Nat} {x : α} (h : xs[i]? = some x) : ((xs.take (i + 1)).map f).sum = ((xs.take i).map f).sum + f x := by
  obtain ⟨hi, rfl⟩ := List.getElem?_eq_some_iff.1 h
  rw [List.take_succ_eq_append_getElem hi, List.map_append, List.sum_append]; simp
/-- what a valid node is -/
structure NodeP (e : GExpr) : Prop where
  k0 : 1 ≤ e.kind
  k9 : e.kind ≤ 9
  num : e.kind = 1 → 0 ≤ e.n ∧ e.n ≤ 1000000000
  text : e.text.length ≤ 20
  call : e.kind = 5 → e.args.length ≤ 4
  list : e.kind = 4 → e.args.length ≤ 8
  op : e.kind = 6 → e.args.length = 2 ∧ 1 ≤ e.n ∧ e.n ≤ 5
  two : e.kind = 7 ∨ e.kind = 9 → e.args.length = 2
  three : e.kind = 8 → e.args.length = 3
inductive ValidE : GExpr → Prop
  | mk (e : GExpr) (h : NodeP e) (hs : ∀ x, x ∈ e.args → ValidE x) : ValidE e

theorem octs_len (s : Str) : (octs s).length = s.length := by unfold octs; rw [List.length_map]
theorem bytesOf_len (xs : List Int) : (bytesOf xs).length = xs.length := by unfold bytesOf; rw [List.length_map]
/-- the length of joined texts -/
def lens (xs : List Str) : Nat := (xs.map List.length).sum
theorem lens_snoc (xs : List Str) (x : Str) : lens (xs ++ [x]) = lens xs + x.length := by simp [lens]
theorem idx_get {α : Type} {xs : List α} {n : Nat} (h : n < xs.length) : ∃ x, idx xs ((n : Nat) : Int) = some x ∧ x ∈ xs ∧ xs[n]? = some x := by
  refine ⟨xs[n], ?_, List.getElem_mem h, List.getElem?_eq_getElem h⟩
  rw [idx_nat]; exact List.getElem?_eq_getElem h
/-- a text short enough for an expression -/
def TxtOk (x : Option Str) (n : Nat) : Prop := ∃ s, x = some s ∧ s.length ≤ n
theorem two_args {e : GExpr} (h : e.args.length = 2) : ∃ a b, e.args = [a, b] := by
  cases h1 : e.args with
  | nil => rw [h1] at h; cases h
  | cons a r => cases r with
    | nil => rw [h1] at h; cases h
    | cons b r => cases r with
      | nil => exact ⟨a, b, rfl⟩
      | cons c r => rw [h1] at h; simp at h
theorem three_args {e : GExpr} (h : e.args.length = 3) : ∃ a b c, e.args = [a, b, c] := by
  cases h1 : e.args with
  | nil => rw [h1] at h; cases h
  | cons a r => cases r with
    | nil => rw [h1] at h; cases h
    | cons b r => cases r with
      | nil => rw [h1] at h; cases h
      | cons c r => cases r with
        | nil => exact ⟨a, b, c, rfl⟩
        | cons d r => rw [h1] at h; simp at h
theorem mem_sum {α : Type} (f : α → Nat) {xs : List α} {x : α} (h : x ∈ xs) : f x ≤ (xs.map f).sum := by
  induction xs with
  | nil => cases h
  | cons y ys ih =>
    simp only [List.map_cons, List.sum_cons]
    rcases List.mem_cons.1 h with rfl | h
    · omega
    · have := ih h; omega
end Go.Proofs.Ytijhfajcbmpndaa
