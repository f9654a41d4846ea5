/- Plain laws: inverse edits and batches, copies and steps of histories; both sides alike. -/
import Derived.Test.YtikafaabbikflaaLawsG
set_option linter.unusedSimpArgs false
set_option linter.unusedVariables false
namespace Go.Proofs.Ytikafaabbikflaa
open Go.Abs Go.Proofs

theorem foldl_snoc {α : Type} : ∀ (xs acc : List α), xs.foldl (fun s x => s ++ [x]) acc = acc ++ xs
  | [], acc => by simp
  | x :: xs, acc => by rw [List.foldl_cons, foldl_snoc xs]; simp
theorem int0 {n : Int} (h : (Lit.int .i64 n).wf = true) : FitD B20 (.int .i64 n) := .int .i64 _ h
theorem wf_small {n : Int} (h0 : -1000000000 ≤ n) (h1 : n ≤ 1000000000) : (Lit.int .i64 n).wf = true := by
  unfold Lit.wf
  simp [IntKind.bits, IntKind.signed, IntKind.min, IntKind.max]
  omega
theorem nilStr : FitD B20 (.str []) := mkStr20 (by simp)
theorem cell_bare {id : Int} (h : FitD B20 (.int .i64 id)) {nm cd : Str} {n : Int} (h1 : FitD B20 (.str nm)) (h2 : FitD B20 (.str cd)) (h3 : FitD B20 (.int .i64 n)) : Fit B20 (.base .cell) (GCell.mk id 0 0 nm cd n) := by
  rw [fit_cell]
  exact ⟨h, int0 (wf_small (n := 0) (by omega) (by omega)), int0 (wf_small (n := 0) (by omega) (by omega)), h1, h2, h3⟩
theorem mk_edit {k p : Int} {c : GCell} (h1 : FitD B20 (.int .i64 k)) (h2 : FitD B20 (.int .i64 p)) (h3 : Fit B20 (.base .cell) c) : Fit B20 (.base .edit) (GEdit.mk k p c) := by
  rw [fit_edit]; exact ⟨h1, h2, h3⟩
theorem loop_three {α σ ρ ρ' X Y Z : Type} {g1 : X → Option (X ⊕ ρ)} {g2 : Y → Option (Y ⊕ ρ)} {g3 : Z → Option (Z ⊕ ρ')} (pk1 : σ → Nat → X) (pk2 : σ → Nat → Y) (pk3 : σ → Nat → Z) (xs : List α) (I : Nat → σ → Prop) (R : ρ → ρ' → Prop)
    (hs : ∀ i x s, xs[i]? = some x → I i s → (∃ s', g1 (pk1 s i) = some (.inl (pk1 s' (i + 1))) ∧ g2 (pk2 s i) = some (.inl (pk2 s' (i + 1))) ∧ g3 (pk3 s i) = some (.inl (pk3 s' (i + 1))) ∧ I (i + 1) s') ∨
      ∃ r r', g1 (pk1 s i) = some (.inr r) ∧ g2 (pk2 s i) = some (.inr r) ∧ g3 (pk3 s i) = some (.inr r') ∧ R r r')
    (he : ∀ s, I xs.length s → ∃ r r', g1 (pk1 s xs.length) = some (.inr r) ∧ g2 (pk2 s xs.length) = some (.inr r) ∧ g3 (pk3 s xs.length) = some (.inr r') ∧ R r r') (s : σ) (h0 : I 0 s) :
    ∃ r r', loopD g1 (pk1 s 0) = some r ∧ loopD g2 (pk2 s 0) = some r ∧ loopD g3 (pk3 s 0) = some r' ∧ R r r' := by
  have key : ∀ (n i : Nat) (s : σ), xs.length = i + n → I i s → ∃ r r', loopD g1 (pk1 s i) = some r ∧ loopD g2 (pk2 s i) = some r ∧ loopD g3 (pk3 s i) = some r' ∧ R r r' := by
    intro n
    induction n with
    | zero =>
      intro i s hi hI
      have : i = xs.length := by omega
      subst this
      obtain ⟨r, r', e1, e2, e3, hR⟩ := he s hI
      refine ⟨r, r', ?_, ?_, ?_, hR⟩
      · rw [loopD_eq, e1]
      · rw [loopD_eq, e2]
      · rw [loopD_eq, e3]
    | succ n ih =>
      intro i s hi hI
      have hlt : i < xs.length := by omega
      rcases hs i xs[i] s (List.getElem?_eq_getElem hlt) hI with ⟨s', e1, e2, e3, hI'⟩ | ⟨r, r', e1, e2, e3, hR⟩
      · obtain ⟨r, r', q1, q2, q3, hR⟩ := ih (i + 1) s' (by omega) hI'
        refine ⟨r, r', ?_, ?_, ?_, hR⟩
        · rw [loopD_eq, e1]; exact q1
        · rw [loopD_eq, e2]; exact q2
        · rw [loopD_eq, e3]; exact q3
      · refine ⟨r, r', ?_, ?_, ?_, hR⟩
        · rw [loopD_eq, e1]
        · rw [loopD_eq, e2]
        · rw [loopD_eq, e3]
  exact key xs.length 0 s (by omega) h0
theorem edits_nil : FitD B20 (.list (.base .edit) []) := mkList20 (by simp) fun x hx => by cases hx
end Go.Proofs.Ytikafaabbikflaa
