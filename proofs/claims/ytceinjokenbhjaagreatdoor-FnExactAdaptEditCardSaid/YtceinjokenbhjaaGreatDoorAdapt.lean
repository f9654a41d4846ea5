/- Plain laws: AdaptEdit is alike on both sides. -/
import Derived.Test.YtceinjokenbhjaaGreatDoorFree1
import Derived.Test.YtceinjokenbhjaaGreatDoorLawsA
set_option linter.unusedSimpArgs false
set_option linter.unusedVariables false
namespace Go.Proofs.YtceinjokenbhjaaGreatDoor
open Go.Abs Go.Proofs

theorem valid_short (a : Str) (hl : a.length ≤ 34359738368) (h : iIsValidName a = some true) : a.length ≤ 8 := by
  unfold iIsValidName at h
  rw [iIsWord_eq a hl] at h
  by_cases h8 : (a.length : Int) ≤ 8
  · omega
  · rw [decide_eq_false h8, Bool.and_false, Bool.and_false] at h
    cases h
theorem renameFree_alike (e : GExpr) (b c : Str) (hw : wtE e ≤ 1000) (hb : b.length ≤ 34359738368) (hc : c.length ≤ 34359738368) :
    ∃ (x : GExpr) (v : Bool), iRenameFree e b c = some (x, v) ∧ sRenameFree e b c = some (x, v) ∧ wtE x ≤ 1000 := by
  obtain ⟨v0, e1, e2, h0⟩ := valid_alike e (by omega)
  obtain ⟨v1, f1⟩ := validName_ok b hb
  obtain ⟨v2, f2⟩ := validName_ok c hc
  have g1 : sIsValidName b = some v1 := by rw [← vName_alike b hb, f1]
  have g2 : sIsValidName c = some v2 := by rw [← vName_alike c hc, f2]
  obtain ⟨v3, k1, k2⟩ := captured_alike e b c hw
  have r1 : iRenamed e b c = some (renE b c e) := renI_ok b c _ e (by omega) (by omega)
  have hz : wtE ⟨0, 0, [], []⟩ ≤ 1000 := by rw [wtE_nil]; simp [wtL]
  unfold iRenameFree sRenameFree
  simp only [reExpr_eq, e1, e2, f1, f2, g1, g2, k1, k2, r1, Option.bind_some]
  cases v0 with
  | false => exact ⟨_, _, rfl, rfl, hz⟩
  | true =>
    obtain ⟨hv, hw40⟩ := h0 rfl
    have r2 : sL13Rename e b c = some (renE b c e) := renS_ok b c _ e (by omega) (by omega) hv
    simp only [r2, Option.bind_some, Bool.not_true, cond_false]
    cases v1 with
    | false => exact ⟨_, _, rfl, rfl, hz⟩
    | true =>
      cases v2 with
      | false => exact ⟨_, _, rfl, rfl, hz⟩
      | true =>
        have hs := valid_short c hc f2
        cases v3 with
        | true => exact ⟨_, _, rfl, rfl, hz⟩
        | false => exact ⟨renE b c e, true, rfl, rfl, by have := renE_wt b c (by omega) e; omega⟩
theorem has_index (ys : List Str) (b : Str) (hl : ys.length ≤ 34359738368) : ∃ p : Int, iIndexOf ys b = some p ∧ sL1Has ys b = some (!(decide (p < 0))) := by
  refine ⟨posOf b 0 ys, iIndexOf_eq ys b hl, ?_⟩
  rw [sL1Has_eq ys b hl]
  have h := posOf_neg b ys 0
  cases hc : ys.contains b with
  | false => rw [decide_eq_true (h.2 hc)]; rfl
  | true =>
    have : ¬ posOf b 0 ys < 0 := fun hh => by rw [h.1 hh] at hc; cases hc
    rw [decide_eq_false this]; rfl
theorem code_alike (a b c : Str) (hb : b.length ≤ 34359738368) (hc : c.length ≤ 34359738368) : ∃ s, iAdaptedCode a b c = some s ∧ sL42Code a b c = some s := by
  obtain ⟨e, p, h1, h2, h3⟩ := parse_alike a
  unfold iAdaptedCode sL42Code
  simp only [h1, h2, Option.bind_some, reExpr_eq]
  by_cases hp : p ≥ 0
  · rw [decide_eq_true hp]; exact ⟨a, rfl, rfl⟩
  · rw [decide_eq_false hp]
    obtain ⟨hv, hw⟩ := h3 (by omega)
    obtain ⟨ys, n1, n2, _, n4, _⟩ := freeNames_alike e (by omega)
    obtain ⟨q, m1, m2⟩ := has_index ys b (by omega)
    obtain ⟨x, v, k1, k2, k3⟩ := renameFree_alike e b c (by omega) hb hc
    obtain ⟨s, f1, f2, _⟩ := format_alike x (by omega)
    simp only [cond_false, n1, n2, m1, m2, k1, k2, f1, f2, Option.bind_some, Bool.not_not]
    cases decide (q < 0) with
    | true => exact ⟨a, rfl, rfl⟩
    | false =>
      simp only [cond_false]
      cases v with
      | false => exact ⟨a, rfl, rfl⟩
      | true =>
        by_cases hs : (s.length : Int) ≤ 120
        · rw [decide_eq_true hs, decide_eq_false (by omega)]; exact ⟨s, rfl, rfl⟩
        · rw [decide_eq_false hs, decide_eq_true (by omega)]; exact ⟨a, rfl, rfl⟩
theorem two_run {α X Y ρ σ : Type} {f : X → Option (X ⊕ ρ)} {g : Y → Option (Y ⊕ ρ)} (px : σ → Nat → X) (py : σ → Nat → Y) (xs : List α) (I : Nat → σ → Prop) (R : ρ → Prop)
    (hs : ∀ i x s, xs[i]? = some x → I i s → (∃ s', f (px s i) = some (.inl (px s' (i + 1))) ∧ g (py s i) = some (.inl (py s' (i + 1))) ∧ I (i + 1) s') ∨ ∃ r, f (px s i) = some (.inr r) ∧ g (py s i) = some (.inr r) ∧ R r)
    (hf : ∀ s, I xs.length s → ∃ r, f (px s xs.length) = some (.inr r) ∧ g (py s xs.length) = some (.inr r) ∧ R r) (s : σ) (h0 : I 0 s) : ∃ r, loopD f (px s 0) = some r ∧ loopD g (py s 0) = some r ∧ R r := by
  have key : ∀ (k i : Nat) (s : σ), xs.length = i + k → I i s → ∃ r, loopD f (px s i) = some r ∧ loopD g (py s i) = some r ∧ R r := by
    intro k
    induction k with
    | zero =>
      intro i s hi hI
      have : i = xs.length := by omega
      subst this
      obtain ⟨r, e1, e2, hR⟩ := hf s hI
      exact ⟨r, by rw [loopD_eq, e1], by rw [loopD_eq, e2], hR⟩
    | succ k ih =>
      intro i s hi hI
      have hlt : i < xs.length := by omega
      rcases hs i _ s (List.getElem?_eq_getElem hlt) hI with ⟨s', e1, e2, hI'⟩ | ⟨r, e1, e2, hR⟩
      · obtain ⟨r, q1, q2, hR⟩ := ih (i + 1) s' (by omega) hI'
        exact ⟨r, by rw [loopD_eq, e1]; exact q1, by rw [loopD_eq, e2]; exact q2, hR⟩
      · exact ⟨r, by rw [loopD_eq, e1], by rw [loopD_eq, e2], hR⟩
  exact key xs.length 0 s (by omega) h0
abbrev AdI := Int × Int × Int × Int × Int × Str × Str × Int × Int × Int × Int × Int × Int × Str × Str × Int × (List GOp) × Int × Int
abbrev AdS := (List GOp) × Int × Int × Int × Int × Int × Str × Str × Int × Int × Int × Int × Int × Int × Str × Str × Int × Int
noncomputable def adBI : AdI → Option (AdI ⊕ GEdit) := (fun (x1 : Int × Int × Int × Int × Int × Str × Str × Int × Int × Int × Int × Int × Int × Str × Str × Int × (List GOp) × Int × Int) =>
      bif (decide (x1.2.2.2.2.2.2.2.2.2.2.2.2.2.2.2.2.2.2 < x1.2.2.2.2.2.2.2.2.2.2.2.2.2.2.2.2.2.1)) then
        (idx x1.2.2.2.2.2.2.2.2.2.2.2.2.2.2.2.2.1 x1.2.2.2.2.2.2.2.2.2.2.2.2.2.2.2.2.2.2).bind fun e2 =>
        bif (x1.2.2.2.2.2.1 == e2.src) then
          bif (x1.1 == 4) then
            (iAdaptedCode x1.2.2.2.2.2.2.1 e2.src e2.dst).bind fun r3 =>
            some (.inl (x1.1, x1.2.1, x1.2.2.1, x1.2.2.2.1, x1.2.2.2.2.1, e2.dst, r3, x1.2.2.2.2.2.2.2.1, x1.2.2.2.2.2.2.2.2.1, x1.2.2.2.2.2.2.2.2.2.1, x1.2.2.2.2.2.2.2.2.2.2.1, x1.2.2.2.2.2.2.2.2.2.2.2.1, x1.2.2.2.2.2.2.2.2.2.2.2.2.1, x1.2.2.2.2.2.2.2.2.2.2.2.2.2.1, x1.2.2.2.2.2.2.2.2.2.2.2.2.2.2.1, x1.2.2.2.2.2.2.2.2.2.2.2.2.2.2.2.1, x1.2.2.2.2.2.2.2.2.2.2.2.2.2.2.2.2.1, x1.2.2.2.2.2.2.2.2.2.2.2.2.2.2.2.2.2.1, w64 (x1.2.2.2.2.2.2.2.2.2.2.2.2.2.2.2.2.2.2 + 1)))
          else
            bif (x1.1 == 1) then
              bif (x1.2.2.2.2.1 == 2) then
                (iAdaptedCode x1.2.2.2.2.2.2.1 e2.src e2.dst).bind fun r4 =>
                some (.inl (x1.1, x1.2.1, x1.2.2.1, x1.2.2.2.1, x1.2.2.2.2.1, e2.dst, r4, x1.2.2.2.2.2.2.2.1, x1.2.2.2.2.2.2.2.2.1, x1.2.2.2.2.2.2.2.2.2.1, x1.2.2.2.2.2.2.2.2.2.2.1, x1.2.2.2.2.2.2.2.2.2.2.2.1, x1.2.2.2.2.2.2.2.2.2.2.2.2.1, x1.2.2.2.2.2.2.2.2.2.2.2.2.2.1, x1.2.2.2.2.2.2.2.2.2.2.2.2.2.2.1, x1.2.2.2.2.2.2.2.2.2.2.2.2.2.2.2.1, x1.2.2.2.2.2.2.2.2.2.2.2.2.2.2.2.2.1, x1.2.2.2.2.2.2.2.2.2.2.2.2.2.2.2.2.2.1, w64 (x1.2.2.2.2.2.2.2.2.2.2.2.2.2.2.2.2.2.2 + 1)))
              else
                some (.inl (x1.1, x1.2.1, x1.2.2.1, x1.2.2.2.1, x1.2.2.2.2.1, e2.dst, x1.2.2.2.2.2.2.1, x1.2.2.2.2.2.2.2.1, x1.2.2.2.2.2.2.2.2.1, x1.2.2.2.2.2.2.2.2.2.1, x1.2.2.2.2.2.2.2.2.2.2.1, x1.2.2.2.2.2.2.2.2.2.2.2.1, x1.2.2.2.2.2.2.2.2.2.2.2.2.1, x1.2.2.2.2.2.2.2.2.2.2.2.2.2.1, x1.2.2.2.2.2.2.2.2.2.2.2.2.2.2.1, x1.2.2.2.2.2.2.2.2.2.2.2.2.2.2.2.1, x1.2.2.2.2.2.2.2.2.2.2.2.2.2.2.2.2.1, x1.2.2.2.2.2.2.2.2.2.2.2.2.2.2.2.2.2.1, w64 (x1.2.2.2.2.2.2.2.2.2.2.2.2.2.2.2.2.2.2 + 1)))
            else
              some (.inl (x1.1, x1.2.1, x1.2.2.1, x1.2.2.2.1, x1.2.2.2.2.1, e2.dst, x1.2.2.2.2.2.2.1, x1.2.2.2.2.2.2.2.1, x1.2.2.2.2.2.2.2.2.1, x1.2.2.2.2.2.2.2.2.2.1, x1.2.2.2.2.2.2.2.2.2.2.1, x1.2.2.2.2.2.2.2.2.2.2.2.1, x1.2.2.2.2.2.2.2.2.2.2.2.2.1, x1.2.2.2.2.2.2.2.2.2.2.2.2.2.1, x1.2.2.2.2.2.2.2.2.2.2.2.2.2.2.1, x1.2.2.2.2.2.2.2.2.2.2.2.2.2.2.2.1, x1.2.2.2.2.2.2.2.2.2.2.2.2.2.2.2.2.1, x1.2.2.2.2.2.2.2.2.2.2.2.2.2.2.2.2.2.1, w64 (x1.2.2.2.2.2.2.2.2.2.2.2.2.2.2.2.2.2.2 + 1)))
        else
        bif (x1.1 == 4) then
          (iAdaptedCode x1.2.2.2.2.2.2.1 e2.src e2.dst).bind fun r5 =>
          some (.inl (x1.1, x1.2.1, x1.2.2.1, x1.2.2.2.1, x1.2.2.2.2.1, x1.2.2.2.2.2.1, r5, x1.2.2.2.2.2.2.2.1, x1.2.2.2.2.2.2.2.2.1, x1.2.2.2.2.2.2.2.2.2.1, x1.2.2.2.2.2.2.2.2.2.2.1, x1.2.2.2.2.2.2.2.2.2.2.2.1, x1.2.2.2.2.2.2.2.2.2.2.2.2.1, x1.2.2.2.2.2.2.2.2.2.2.2.2.2.1, x1.2.2.2.2.2.2.2.2.2.2.2.2.2.2.1, x1.2.2.2.2.2.2.2.2.2.2.2.2.2.2.2.1, x1.2.2.2.2.2.2.2.2.2.2.2.2.2.2.2.2.1, x1.2.2.2.2.2.2.2.2.2.2.2.2.2.2.2.2.2.1, w64 (x1.2.2.2.2.2.2.2.2.2.2.2.2.2.2.2.2.2.2 + 1)))
        else
          bif (x1.1 == 1) then
            bif (x1.2.2.2.2.1 == 2) then
              (iAdaptedCode x1.2.2.2.2.2.2.1 e2.src e2.dst).bind fun r6 =>
              some (.inl (x1.1, x1.2.1, x1.2.2.1, x1.2.2.2.1, x1.2.2.2.2.1, x1.2.2.2.2.2.1, r6, x1.2.2.2.2.2.2.2.1, x1.2.2.2.2.2.2.2.2.1, x1.2.2.2.2.2.2.2.2.2.1, x1.2.2.2.2.2.2.2.2.2.2.1, x1.2.2.2.2.2.2.2.2.2.2.2.1, x1.2.2.2.2.2.2.2.2.2.2.2.2.1, x1.2.2.2.2.2.2.2.2.2.2.2.2.2.1, x1.2.2.2.2.2.2.2.2.2.2.2.2.2.2.1, x1.2.2.2.2.2.2.2.2.2.2.2.2.2.2.2.1, x1.2.2.2.2.2.2.2.2.2.2.2.2.2.2.2.2.1, x1.2.2.2.2.2.2.2.2.2.2.2.2.2.2.2.2.2.1, w64 (x1.2.2.2.2.2.2.2.2.2.2.2.2.2.2.2.2.2.2 + 1)))
            else
              some (.inl (x1.1, x1.2.1, x1.2.2.1, x1.2.2.2.1, x1.2.2.2.2.1, x1.2.2.2.2.2.1, x1.2.2.2.2.2.2.1, x1.2.2.2.2.2.2.2.1, x1.2.2.2.2.2.2.2.2.1, x1.2.2.2.2.2.2.2.2.2.1, x1.2.2.2.2.2.2.2.2.2.2.1, x1.2.2.2.2.2.2.2.2.2.2.2.1, x1.2.2.2.2.2.2.2.2.2.2.2.2.1, x1.2.2.2.2.2.2.2.2.2.2.2.2.2.1, x1.2.2.2.2.2.2.2.2.2.2.2.2.2.2.1, x1.2.2.2.2.2.2.2.2.2.2.2.2.2.2.2.1, x1.2.2.2.2.2.2.2.2.2.2.2.2.2.2.2.2.1, x1.2.2.2.2.2.2.2.2.2.2.2.2.2.2.2.2.2.1, w64 (x1.2.2.2.2.2.2.2.2.2.2.2.2.2.2.2.2.2.2 + 1)))
          else
            some (.inl (x1.1, x1.2.1, x1.2.2.1, x1.2.2.2.1, x1.2.2.2.2.1, x1.2.2.2.2.2.1, x1.2.2.2.2.2.2.1, x1.2.2.2.2.2.2.2.1, x1.2.2.2.2.2.2.2.2.1, x1.2.2.2.2.2.2.2.2.2.1, x1.2.2.2.2.2.2.2.2.2.2.1, x1.2.2.2.2.2.2.2.2.2.2.2.1, x1.2.2.2.2.2.2.2.2.2.2.2.2.1, x1.2.2.2.2.2.2.2.2.2.2.2.2.2.1, x1.2.2.2.2.2.2.2.2.2.2.2.2.2.2.1, x1.2.2.2.2.2.2.2.2.2.2.2.2.2.2.2.1, x1.2.2.2.2.2.2.2.2.2.2.2.2.2.2.2.2.1, x1.2.2.2.2.2.2.2.2.2.2.2.2.2.2.2.2.2.1, w64 (x1.2.2.2.2.2.2.2.2.2.2.2.2.2.2.2.2.2.2 + 1)))
      else
        some (.inr (GEdit.mk x1.1 x1.2.1 (GCell.mk x1.2.2.1 x1.2.2.2.1 x1.2.2.2.2.1 x1.2.2.2.2.2.1 x1.2.2.2.2.2.2.1 x1.2.2.2.2.2.2.2.1)))
    )
noncomputable def adBS : AdS → Option (AdS ⊕ GEdit) := (fun (x1 : (List GOp) × Int × Int × Int × Int × Int × Str × Str × Int × Int × Int × Int × Int × Int × Str × Str × Int × Int) =>
      bif (decide (x1.2.2.2.2.2.2.2.2.2.2.2.2.2.2.2.2.2 < (x1.1.length : Int))) then
        (idx x1.1 x1.2.2.2.2.2.2.2.2.2.2.2.2.2.2.2.2.2).bind fun e2 =>
        bif (x1.2.2.2.2.2.2.1 == e2.src) then
          bif (x1.2.1 == 4) then
            (sL42Code x1.2.2.2.2.2.2.2.1 e2.src e2.dst).bind fun r3 =>
            some (.inl (x1.1, x1.2.1, x1.2.2.1, x1.2.2.2.1, x1.2.2.2.2.1, x1.2.2.2.2.2.1, e2.dst, r3, x1.2.2.2.2.2.2.2.2.1, x1.2.2.2.2.2.2.2.2.2.1, x1.2.2.2.2.2.2.2.2.2.2.1, x1.2.2.2.2.2.2.2.2.2.2.2.1, x1.2.2.2.2.2.2.2.2.2.2.2.2.1, x1.2.2.2.2.2.2.2.2.2.2.2.2.2.1, x1.2.2.2.2.2.2.2.2.2.2.2.2.2.2.1, x1.2.2.2.2.2.2.2.2.2.2.2.2.2.2.2.1, x1.2.2.2.2.2.2.2.2.2.2.2.2.2.2.2.2.1, w64 (x1.2.2.2.2.2.2.2.2.2.2.2.2.2.2.2.2.2 + 1)))
          else
            bif (x1.2.1 == 1) then
              bif (x1.2.2.2.2.2.1 == 2) then
                (sL42Code x1.2.2.2.2.2.2.2.1 e2.src e2.dst).bind fun r4 =>
                some (.inl (x1.1, x1.2.1, x1.2.2.1, x1.2.2.2.1, x1.2.2.2.2.1, x1.2.2.2.2.2.1, e2.dst, r4, x1.2.2.2.2.2.2.2.2.1, x1.2.2.2.2.2.2.2.2.2.1, x1.2.2.2.2.2.2.2.2.2.2.1, x1.2.2.2.2.2.2.2.2.2.2.2.1, x1.2.2.2.2.2.2.2.2.2.2.2.2.1, x1.2.2.2.2.2.2.2.2.2.2.2.2.2.1, x1.2.2.2.2.2.2.2.2.2.2.2.2.2.2.1, x1.2.2.2.2.2.2.2.2.2.2.2.2.2.2.2.1, x1.2.2.2.2.2.2.2.2.2.2.2.2.2.2.2.2.1, w64 (x1.2.2.2.2.2.2.2.2.2.2.2.2.2.2.2.2.2 + 1)))
              else
                some (.inl (x1.1, x1.2.1, x1.2.2.1, x1.2.2.2.1, x1.2.2.2.2.1, x1.2.2.2.2.2.1, e2.dst, x1.2.2.2.2.2.2.2.1, x1.2.2.2.2.2.2.2.2.1, x1.2.2.2.2.2.2.2.2.2.1, x1.2.2.2.2.2.2.2.2.2.2.1, x1.2.2.2.2.2.2.2.2.2.2.2.1, x1.2.2.2.2.2.2.2.2.2.2.2.2.1, x1.2.2.2.2.2.2.2.2.2.2.2.2.2.1, x1.2.2.2.2.2.2.2.2.2.2.2.2.2.2.1, x1.2.2.2.2.2.2.2.2.2.2.2.2.2.2.2.1, x1.2.2.2.2.2.2.2.2.2.2.2.2.2.2.2.2.1, w64 (x1.2.2.2.2.2.2.2.2.2.2.2.2.2.2.2.2.2 + 1)))
            else
              some (.inl (x1.1, x1.2.1, x1.2.2.1, x1.2.2.2.1, x1.2.2.2.2.1, x1.2.2.2.2.2.1, e2.dst, x1.2.2.2.2.2.2.2.1, x1.2.2.2.2.2.2.2.2.1, x1.2.2.2.2.2.2.2.2.2.1, x1.2.2.2.2.2.2.2.2.2.2.1, x1.2.2.2.2.2.2.2.2.2.2.2.1, x1.2.2.2.2.2.2.2.2.2.2.2.2.1, x1.2.2.2.2.2.2.2.2.2.2.2.2.2.1, x1.2.2.2.2.2.2.2.2.2.2.2.2.2.2.1, x1.2.2.2.2.2.2.2.2.2.2.2.2.2.2.2.1, x1.2.2.2.2.2.2.2.2.2.2.2.2.2.2.2.2.1, w64 (x1.2.2.2.2.2.2.2.2.2.2.2.2.2.2.2.2.2 + 1)))
        else
        bif (x1.2.1 == 4) then
          (sL42Code x1.2.2.2.2.2.2.2.1 e2.src e2.dst).bind fun r5 =>
          some (.inl (x1.1, x1.2.1, x1.2.2.1, x1.2.2.2.1, x1.2.2.2.2.1, x1.2.2.2.2.2.1, x1.2.2.2.2.2.2.1, r5, x1.2.2.2.2.2.2.2.2.1, x1.2.2.2.2.2.2.2.2.2.1, x1.2.2.2.2.2.2.2.2.2.2.1, x1.2.2.2.2.2.2.2.2.2.2.2.1, x1.2.2.2.2.2.2.2.2.2.2.2.2.1, x1.2.2.2.2.2.2.2.2.2.2.2.2.2.1, x1.2.2.2.2.2.2.2.2.2.2.2.2.2.2.1, x1.2.2.2.2.2.2.2.2.2.2.2.2.2.2.2.1, x1.2.2.2.2.2.2.2.2.2.2.2.2.2.2.2.2.1, w64 (x1.2.2.2.2.2.2.2.2.2.2.2.2.2.2.2.2.2 + 1)))
        else
          bif (x1.2.1 == 1) then
            bif (x1.2.2.2.2.2.1 == 2) then
              (sL42Code x1.2.2.2.2.2.2.2.1 e2.src e2.dst).bind fun r6 =>
              some (.inl (x1.1, x1.2.1, x1.2.2.1, x1.2.2.2.1, x1.2.2.2.2.1, x1.2.2.2.2.2.1, x1.2.2.2.2.2.2.1, r6, x1.2.2.2.2.2.2.2.2.1, x1.2.2.2.2.2.2.2.2.2.1, x1.2.2.2.2.2.2.2.2.2.2.1, x1.2.2.2.2.2.2.2.2.2.2.2.1, x1.2.2.2.2.2.2.2.2.2.2.2.2.1, x1.2.2.2.2.2.2.2.2.2.2.2.2.2.1, x1.2.2.2.2.2.2.2.2.2.2.2.2.2.2.1, x1.2.2.2.2.2.2.2.2.2.2.2.2.2.2.2.1, x1.2.2.2.2.2.2.2.2.2.2.2.2.2.2.2.2.1, w64 (x1.2.2.2.2.2.2.2.2.2.2.2.2.2.2.2.2.2 + 1)))
            else
              some (.inl (x1.1, x1.2.1, x1.2.2.1, x1.2.2.2.1, x1.2.2.2.2.1, x1.2.2.2.2.2.1, x1.2.2.2.2.2.2.1, x1.2.2.2.2.2.2.2.1, x1.2.2.2.2.2.2.2.2.1, x1.2.2.2.2.2.2.2.2.2.1, x1.2.2.2.2.2.2.2.2.2.2.1, x1.2.2.2.2.2.2.2.2.2.2.2.1, x1.2.2.2.2.2.2.2.2.2.2.2.2.1, x1.2.2.2.2.2.2.2.2.2.2.2.2.2.1, x1.2.2.2.2.2.2.2.2.2.2.2.2.2.2.1, x1.2.2.2.2.2.2.2.2.2.2.2.2.2.2.2.1, x1.2.2.2.2.2.2.2.2.2.2.2.2.2.2.2.2.1, w64 (x1.2.2.2.2.2.2.2.2.2.2.2.2.2.2.2.2.2 + 1)))
          else
            some (.inl (x1.1, x1.2.1, x1.2.2.1, x1.2.2.2.1, x1.2.2.2.2.1, x1.2.2.2.2.2.1, x1.2.2.2.2.2.2.1, x1.2.2.2.2.2.2.2.1, x1.2.2.2.2.2.2.2.2.1, x1.2.2.2.2.2.2.2.2.2.1, x1.2.2.2.2.2.2.2.2.2.2.1, x1.2.2.2.2.2.2.2.2.2.2.2.1, x1.2.2.2.2.2.2.2.2.2.2.2.2.1, x1.2.2.2.2.2.2.2.2.2.2.2.2.2.1, x1.2.2.2.2.2.2.2.2.2.2.2.2.2.2.1, x1.2.2.2.2.2.2.2.2.2.2.2.2.2.2.2.1, x1.2.2.2.2.2.2.2.2.2.2.2.2.2.2.2.2.1, w64 (x1.2.2.2.2.2.2.2.2.2.2.2.2.2.2.2.2.2 + 1)))
      else
        some (.inr (GEdit.mk x1.2.1 x1.2.2.1 (GCell.mk x1.2.2.2.1 x1.2.2.2.2.1 x1.2.2.2.2.2.1 x1.2.2.2.2.2.2.1 x1.2.2.2.2.2.2.2.1 x1.2.2.2.2.2.2.2.2.1)))
    )
theorem adapt_alike (a : GEdit) (b : List GOp) (hl : b.length ≤ 1048576) (hb : ∀ o, o ∈ b → o.src.length ≤ 34359738368 ∧ o.dst.length ≤ 34359738368) : ∃ e, iAdaptEdit a b = some e ∧ sAdaptEdit a b = some e := by
  have key := two_run (f := adBI) (g := adBS) (fun (s : Str × Str) (i : Nat) => ((a.kind, a.pos, a.cell.id, a.cell.version, a.cell.kind, s.1, s.2, a.cell.n, 0, 0, 0, 0, 0, [], [], 0, b, (b.length : Int), (i : Int)) : AdI)) (fun (s : Str × Str) (i : Nat) => ((b, a.kind, a.pos, a.cell.id, a.cell.version, a.cell.kind, s.1, s.2, a.cell.n, 0, 0, 0, 0, 0, [], [], 0, (i : Int)) : AdS)) b (fun _ _ => True) (fun _ => True) (fun i o s ho _ => .inl ?_) (fun s _ => ?_) (a.cell.name, a.cell.code) trivial
  · obtain ⟨r, e1, e2, _⟩ := key
    exact ⟨r, e1, e2⟩
  · obtain ⟨h1, h2⟩ := hb o (List.mem_of_getElem? ho)
    obtain ⟨t, c1, c2⟩ := code_alike s.2 o.src o.dst h1 h2
    refine ⟨(if (s.1 == o.src) = true then o.dst else s.1, if ((a.kind == 4) || ((a.kind == 1) && (a.cell.kind == 2))) = true then t else s.2), ?_, ?_, trivial⟩
    · simp only [adBI, cnt_in ho, cond_true, idx_nat, ho, Option.bind_some, c1, cnt_up ho (by omega)]
      cases (s.1 == o.src) <;> cases (a.kind == 4) <;> cases (a.kind == 1) <;> cases (a.cell.kind == 2) <;> rfl
    · simp only [adBS, cnt_in ho, cond_true, idx_nat, ho, Option.bind_some, c2, cnt_up ho (by omega)]
      cases (s.1 == o.src) <;> cases (a.kind == 4) <;> cases (a.kind == 1) <;> cases (a.cell.kind == 2) <;> rfl
  · refine ⟨⟨a.kind, a.pos, ⟨a.cell.id, a.cell.version, a.cell.kind, s.1, s.2, a.cell.n⟩⟩, ?_, ?_, trivial⟩
    · simp only [adBI, cnt_out, cond_false]
    · simp only [adBS, cnt_out, cond_false]
theorem eqEdit_self (e : GEdit) : eqEdit e e = some true := by
  unfold eqEdit eqCell
  simp
theorem law_FnExactAdaptEdit (a : GEdit) (b : List GOp) (ha : Fit B47 (.base .edit) a) (hb : FitD B47 (.list (.base .op) b)) : FnExactAdaptEdit a b = some true := by
  refine law1 (szEdit_ok a ha) _ (by omega) (by omega) fun pa r1 h0 h1 => ?_
  refine law1 (szOpS_ok b hb) _ h0 h1 fun pb r2 _ _ => ?_
  obtain ⟨e, e1, e2⟩ := adapt_alike a b (by have := list20 pb; omega) (fun o ho => by
    have fo := pb.list_mem o ho
    rw [fit_op] at fo
    have h1 := str20 fo.2.2.2.2.2.1
    have h2 := str20 fo.2.2.2.2.2.2.1
    omega)
  simp only [toEdit_ok a pa, toOpS_ok b pb, Option.bind_some, e1, e2, eqEdit_self, eqOpS_ok b pb, Bool.not_true, cond_false]
end Go.Proofs.YtceinjokenbhjaaGreatDoor
