/- Plain laws with marks: PathTo, NewReplica. -/
import Derived.Test.YtmfhbmfadapdbaaEdit2
set_option linter.unusedSimpArgs false
set_option linter.unusedVariables false
namespace Go.Proofs.Ytmfhbmfadapdbaa
open Go.Abs Go.Proofs

/-- a valid history: few nodes, and every parent stands before its child -/
def HistV (a : GHistory) : Prop := 1 ≤ a.nodes.length ∧ a.nodes.length ≤ 20 ∧ (0 ≤ a.pos ∧ a.pos < a.nodes.length) ∧ ∀ (i : Nat) (x : GNode), a.nodes[i]? = some x → (i = 0 ∧ x.parent = -1) ∨ (0 ≤ x.parent ∧ x.parent < i)
theorem validHistory_eq (a : GHistory) (h : Fit B20 (.base .history) a) : ∃ v, sIsValidHistory a = some v ∧ iIsValidHistory a = some v ∧ (v = true → HistV a ∧ sIsValidNotebook a.notebook = some true) := by
  have pf := h
  rw [fit_history] at pf
  obtain ⟨b, hb1, hb2⟩ := validNotebook_eq a.notebook pf.1
  have hl := lim20 (list20 pf.2.1)
  refine ⟨_, sIsValidHistory_ok a hl hb2, iIsValidHistory_ok a hl hb1, fun hv => ?_⟩
  simp only [Bool.and_eq_true, decide_eq_true_eq] at hv
  obtain ⟨h1, ⟨h2, h3, h4⟩, h5, h6⟩ := hv
  have hw : w64 ((a.nodes.length : Int) - 1) = (a.nodes.length : Int) - 1 := w64_id (by omega) (by omega)
  rw [hw] at h6
  refine ⟨⟨by omega, by omega, ⟨h5, by omega⟩, fun i x hx => ?_⟩, by rw [hb2, h2]⟩
  have := allAt_get h1 i x hx
  rw [Nat.zero_add] at this
  unfold okn at this
  by_cases hi : i = 0
  · subst hi
    simp only [show (((0 : Nat) : Int) == 0) = true from rfl, cond_true] at this
    exact .inl ⟨rfl, by simpa using this⟩
  · have e : ((i : Int) == 0) = false := by simpa using hi
    simp only [e, cond_false, Bool.and_eq_true, decide_eq_true_eq] at this
    have hil := (List.getElem?_eq_some_iff.1 hx).1
    rw [w64_id (by omega) (by omega)] at this
    exact .inr ⟨this.1, by omega⟩

theorem path_ok {X : Type} (nodes : List GNode) {g : X → Option (X ⊕ List Int)} (pk : Int → List Int → X)
    (hv : nodes.length ≤ 20 ∧ ∀ (i : Nat) (x : GNode), nodes[i]? = some x → (i = 0 ∧ x.parent = -1) ∨ (0 ≤ x.parent ∧ x.parent < i))
    (hs : ∀ (i : Nat) (x : GNode) (acc : List Int), nodes[i]? = some x → acc.length ≤ 1000 → g (pk i acc) = some (.inl (pk x.parent ([(i : Int)] ++ acc))))
    (he : ∀ acc, g (pk (-1) acc) = some (.inr acc)) : ∀ (n i : Nat) (acc : List Int), i ≤ n → i < nodes.length → acc.length + n ≤ 100 → ∃ w, loopD g (pk i acc) = some w ∧ (w.length : Int) ≤ 200 := by
  have last : ∀ acc : List Int, acc.length ≤ 200 → ∃ w, loopD g (pk (-1) acc) = some w ∧ (w.length : Int) ≤ 200 := fun acc hacc => by
    rw [loopD_eq, he]
    exact ⟨_, rfl, by omega⟩
  intro n
  induction n with
  | zero =>
    intro i acc hi hil hacc
    have hi0 : i = 0 := by omega
    subst hi0
    have hx := List.getElem?_eq_getElem hil
    rw [loopD_eq, hs 0 _ acc hx (by omega)]
    rcases hv.2 0 _ hx with ⟨_, hp⟩ | ⟨h1, h2⟩
    · simp only; rw [hp]; exact last _ (by simp; omega)
    · omega
  | succ n ih =>
    intro i acc hi hil hacc
    have hx := List.getElem?_eq_getElem hil
    rw [loopD_eq, hs i _ acc hx (by omega)]
    simp only
    rcases hv.2 i _ hx with ⟨_, hp⟩ | ⟨h1, h2⟩
    · rw [hp]; exact last _ (by simp; omega)
    · obtain ⟨p, hp⟩ := Int.eq_ofNat_of_zero_le h1
      rw [hp] at h2 ⊢
      exact ih p _ (by omega) (by omega) (by simp; omega)
theorem pathTo_eq (a : GHistory) (b : Int) (h : Fit B20 (.base .history) a) : ∃ w, sPathTo a b = some w ∧ iPathTo a b = some w ∧ (w.length : Int) ≤ 200 := by
  obtain ⟨v, e1, e2, hv⟩ := validHistory_eq a h
  unfold sPathTo iPathTo
  rw [e1, e2]
  simp only [Option.bind_some]
  cases v with
  | false => exact ⟨[], rfl, rfl, by simp⟩
  | true =>
    obtain ⟨⟨q1, q2, q3, q4⟩, _⟩ := hv rfl
    have hw : w64 ((a.nodes.length : Int) - 1) = (a.nodes.length : Int) - 1 := w64_id (by omega) (by omega)
    simp only [Bool.not_true, cond_false, sL1In_ok, iWithin_ok, Option.bind_some, hw]
    cases hb : (decide (0 ≤ b) && decide (b ≤ (a.nodes.length : Int) - 1)) with
    | false => exact ⟨[], rfl, rfl, by simp⟩
    | true =>
      simp only [Bool.and_eq_true, decide_eq_true_eq] at hb
      obtain ⟨n, hn⟩ := Int.eq_ofNat_of_zero_le hb.1
      subst hn
      simp only [Bool.not_true, cond_false]
      obtain ⟨w, hw1, hw2⟩ := path_ok a.nodes (fun i acc => ((i, a.notebook.cells, a.nodes, a.pos, acc) : Int × (List GCell) × (List GNode) × Int × (List Int))) ⟨q2, q4⟩
        (g := fun (x3 : Int × (List GCell) × (List GNode) × Int × (List Int)) =>
      bif (decide (x3.1 ≥ 0)) then
        (gd ([x3.1].length + x3.2.2.2.2.length)).bind fun _ =>
        (idx x3.2.2.1 x3.1).bind fun e4 =>
        some (.inl (e4.parent, x3.2.1, x3.2.2.1, x3.2.2.2.1, [x3.1] ++ x3.2.2.2.2))
      else
        some (.inr (x3.2.2.2.2))) (fun i x acc hx ha => by
          have hg : gd ([(i : Int)].length + acc.length) = some () := gd_ok (by simp; omega)
          simp only [show decide ((i : Int) ≥ 0) = true by simp, cond_true, hg, Option.bind_some, idx_nat, hx]) (fun acc => rfl) n n [] (Nat.le_refl _) (by omega) (by simp; omega)
      exact ⟨w, hw1, hw1, hw2⟩
end Go.Proofs.Ytmfhbmfadapdbaa
