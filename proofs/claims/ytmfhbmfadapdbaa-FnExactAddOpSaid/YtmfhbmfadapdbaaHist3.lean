/- Plain laws: GoTo. -/
import Derived.Test.YtmfhbmfadapdbaaHist2
set_option linter.unusedSimpArgs false
set_option linter.unusedVariables false
namespace Go.Proofs.Ytmfhbmfadapdbaa
open Go.Abs Go.Proofs

theorem path_sorted {X : Type} (nodes : List GNode) {g : X → Option (X ⊕ List Int)} (pk : Int → List Int → X)
    (hv : nodes.length ≤ 20 ∧ ∀ (i : Nat) (x : GNode), nodes[i]? = some x → (i = 0 ∧ x.parent = -1) ∨ (0 ≤ x.parent ∧ x.parent < i))
    (hs : ∀ (i : Nat) (x : GNode) (acc : List Int), nodes[i]? = some x → acc.length ≤ 1000 → g (pk i acc) = some (.inl (pk x.parent ([(i : Int)] ++ acc))))
    (he : ∀ acc, g (pk (-1) acc) = some (.inr acc)) : ∀ (n i : Nat) (acc : List Int), i ≤ n → i < nodes.length → acc.length + n ≤ 100 → acc.Pairwise (· < ·) → (∀ x ∈ acc, (i : Int) < x) →
      ∃ w, loopD g (pk i acc) = some w ∧ w.Pairwise (· < ·) := by
  have last : ∀ acc : List Int, acc.Pairwise (· < ·) → ∃ w, loopD g (pk (-1) acc) = some w ∧ w.Pairwise (· < ·) := fun acc hacc => by
    rw [loopD_eq, he]
    exact ⟨_, rfl, hacc⟩
  have one : ∀ (i : Nat) (acc : List Int), acc.Pairwise (· < ·) → (∀ x ∈ acc, (i : Int) < x) → ([(i : Int)] ++ acc).Pairwise (· < ·) := fun i acc h1 h2 => by
    rw [List.singleton_append, List.pairwise_cons]; exact ⟨h2, h1⟩
  intro n
  induction n with
  | zero =>
    intro i acc hi hil hacc hp1 hp2
    have hi0 : i = 0 := by omega
    subst hi0
    have hx := List.getElem?_eq_getElem hil
    rw [loopD_eq, hs 0 _ acc hx (by omega)]
    rcases hv.2 0 _ hx with ⟨_, hp⟩ | ⟨h1, h2⟩
    · simp only; rw [hp]; exact last _ (one 0 acc hp1 hp2)
    · omega
  | succ n ih =>
    intro i acc hi hil hacc hp1 hp2
    have hx := List.getElem?_eq_getElem hil
    rw [loopD_eq, hs i _ acc hx (by omega)]
    simp only
    rcases hv.2 i _ hx with ⟨_, hp⟩ | ⟨h1, h2⟩
    · rw [hp]; exact last _ (one i acc hp1 hp2)
    · obtain ⟨p, hp⟩ := Int.eq_ofNat_of_zero_le h1
      rw [hp] at h2 ⊢
      refine ih p _ (by omega) (by omega) (by simp; omega) (one i acc hp1 hp2) fun x hx => ?_
      rw [List.singleton_append, List.mem_cons] at hx
      rcases hx with hx | hx
      · omega
      · have := hp2 x hx; omega
theorem pathTo_sorted (a : GHistory) (b : Int) (h : Fit B20 (.base .history) a) : ∃ w, sPathTo a b = some w ∧ iPathTo a b = some w ∧ (w.length : Int) ≤ 200 ∧ w.Pairwise (· < ·) := by
  obtain ⟨w0, z1, z2, z3⟩ := pathTo_eq a b h
  refine ⟨w0, z1, z2, z3, ?_⟩
  obtain ⟨v, e1, e2, hv⟩ := validHistory_eq a h
  unfold sPathTo at z1
  rw [e1] at z1
  simp only [Option.bind_some] at z1
  cases v with
  | false => cases z1; exact .nil
  | true =>
    obtain ⟨⟨q1, q2, q3, q4⟩, _⟩ := hv rfl
    have hw : w64 ((a.nodes.length : Int) - 1) = (a.nodes.length : Int) - 1 := w64_id (by omega) (by omega)
    simp only [Bool.not_true, cond_false, sL1In_ok, Option.bind_some, hw] at z1
    cases hb : (decide (0 ≤ b) && decide (b ≤ (a.nodes.length : Int) - 1)) with
    | false => rw [hb] at z1; cases z1; exact .nil
    | true =>
      rw [hb] at z1
      simp only [Bool.and_eq_true, decide_eq_true_eq] at hb
      obtain ⟨n, hn⟩ := Int.eq_ofNat_of_zero_le hb.1
      subst hn
      simp only [Bool.not_true, cond_false] at z1
      obtain ⟨w, hw1, hw2⟩ := path_sorted a.nodes (fun i acc => ((i, a.notebook.cells, a.nodes, a.pos, acc) : Int × (List GCell) × (List GNode) × Int × (List Int))) ⟨q2, q4⟩
        (g := fun (x3 : Int × (List GCell) × (List GNode) × Int × (List Int)) =>
      bif (decide (x3.1 ≥ 0)) then
        (gd ([x3.1].length + x3.2.2.2.2.length)).bind fun _ =>
        (idx x3.2.2.1 x3.1).bind fun e4 =>
        some (.inl (e4.parent, x3.2.1, x3.2.2.1, x3.2.2.2.1, [x3.1] ++ x3.2.2.2.2))
      else
        some (.inr (x3.2.2.2.2))) (fun i x acc hx ha => by
          have hg : gd ([(i : Int)].length + acc.length) = some () := gd_ok (by simp; omega)
          simp only [show decide ((i : Int) ≥ 0) = true by simp, cond_true, hg, Option.bind_some, idx_nat, hx]) (fun acc => rfl) n n [] (Nat.le_refl _) (by omega) (by simp; omega) .nil (fun x hx => by cases hx)
      rw [hw1] at z1
      cases z1
      exact hw2
/-- the list has the number -/
def hasI (xs : List Int) (b : Int) : Bool := !(xs.all fun x => !(x == b))
theorem hasI_get {xs : List Int} {b : Int} (h : hasI xs b = true) : ∃ j : Nat, xs[j]? = some b := by
  simp [hasI] at h
  exact List.mem_iff_getElem?.1 h
theorem sL1HasInt_ok (xs : List Int) (b : Int) (h : xs.length < lim) : sL1HasInt xs b = some (hasI xs b) := by
  unfold sL1HasInt
  refine (scan_then (fun i => ((xs, b, (i : Int)) : List Int × Int × Int)) xs (fun x => !(x == b)) true (some false) (fun i x hx => ?_) ?_).trans ?_
  · simp only [dec_lt hx, cond_true, idx_nat, hx, Option.bind_some, w_succ hx h]
    cases (x == b) <;> rfl
  · simp only [Int.lt_irrefl, decide_false, cond_false]; rfl
  · unfold hasI
    cases xs.all fun x => !(x == b) <;> rfl
theorem iHasInt_ok (xs : List Int) (b : Int) (h : xs.length < lim) : iHasInt xs b = some (hasI xs b) := by
  unfold iHasInt
  refine (scan_then (fun i => ((b, xs, (xs.length : Int), (i : Int)) : Int × List Int × Int × Int)) xs (fun x => !(x == b)) true (some false) (fun i x hx => ?_) ?_).trans ?_
  · simp only [dec_lt hx, cond_true, idx_nat, hx, Option.bind_some, w_succ hx h]
    cases (x == b) <;> rfl
  · simp only [Int.lt_irrefl, decide_false, cond_false]; rfl
  · unfold hasI
    cases xs.all fun x => !(x == b) <;> rfl
theorem sorted_get {xs : List Int} (h : xs.Pairwise (· < ·)) {i j : Nat} {x y : Int} (hx : xs[i]? = some x) (hy : xs[j]? = some y) (hij : i < j) : x < y := by
  obtain ⟨hi, hx⟩ := List.getElem?_eq_some_iff.1 hx
  obtain ⟨hj, hy⟩ := List.getElem?_eq_some_iff.1 hy
  rw [← hx, ← hy]
  exact List.pairwise_iff_getElem.1 h i j hi hj hij
abbrev GoR (r : GHistory × Bool) : Prop := Fit B20 (.base .history) r.1
theorem loop_two {σ ρ X Y : Type} {g1 : X → Option (X ⊕ ρ)} {g2 : Y → Option (Y ⊕ ρ)} (pk1 : σ → X) (pk2 : σ → Y) (I : Nat → σ → Prop) (R : ρ → Prop)
    (hs : ∀ n s, I n s → (∃ s' m, m < n ∧ I m s' ∧ g1 (pk1 s) = some (.inl (pk1 s')) ∧ g2 (pk2 s) = some (.inl (pk2 s'))) ∨ ∃ r, g1 (pk1 s) = some (.inr r) ∧ g2 (pk2 s) = some (.inr r) ∧ R r) :
    ∀ n s, I n s → ∃ r, loopD g1 (pk1 s) = some r ∧ loopD g2 (pk2 s) = some r ∧ R r := by
  intro n
  induction n using Nat.strongRecOn with
  | ind n ih =>
    intro s hI
    rcases hs n s hI with ⟨s', m, hm, hI', e1, e2⟩ | ⟨r, e1, e2, hR⟩
    · obtain ⟨r, q1, q2, hR⟩ := ih m hm s' hI'
      exact ⟨r, by rw [loopD_eq, e1]; exact q1, by rw [loopD_eq, e2]; exact q2, hR⟩
    · exact ⟨r, by rw [loopD_eq, e1], by rw [loopD_eq, e2], hR⟩
theorem bindInr {X Y ρ : Type} {A B : Option ρ} {R : ρ → Prop} (h : ∃ r, A = some r ∧ B = some r ∧ R r) :
    ∃ r, (A.bind fun r => some ((.inr r : X ⊕ ρ))) = some (.inr r) ∧ (B.bind fun r => some ((.inr r : Y ⊕ ρ))) = some (.inr r) ∧ R r := by
  obtain ⟨r, e1, e2, h⟩ := h
  exact ⟨r, by rw [e1]; rfl, by rw [e2]; rfl, h⟩
theorem goTo_eq (a : GHistory) (b : Int) (ha : Fit B20 (.base .history) a) : ∃ r, sGoTo a b = some r ∧ iGoTo a b = some r ∧ GoR r := by
  obtain ⟨w, z1, z2, z3, z4⟩ := pathTo_sorted a b ha
  have hwl : w.length < lim := lim20 (by omega)
  have ha' : Fit B20 (.base .history) (GHistory.mk (GNotebook.mk a.notebook.cells) a.nodes a.pos) := ha
  unfold sGoTo iGoTo
  rw [z1, z2, copyHistS a ha, copyHistI a ha]
  simp only [Option.bind_some]
  cases hz : ((w.length : Int) == 0) with
  | true => exact ⟨_, rfl, rfl, ha⟩
  | false =>
    simp only [cond_false]
    refine loop_two (fun (s : GHistory) => (a.notebook.cells, a.nodes, a.pos, ([] : List GCell), ([] : List GNode), (0 : Int), w, s.notebook.cells, s.nodes, s.pos))
      (fun (s : GHistory) => (a.notebook.cells, a.nodes, a.pos, ([] : List GCell), ([] : List GNode), (0 : Int), w, s.notebook.cells, s.nodes, s.pos))
      (fun n s => Fit B20 (.base .history) s ∧ s.pos ≤ (n : Int)) GoR (fun n o hI => ?_) a.pos.toNat a ⟨ha, by omega⟩
    have ho := hI.1
    have ho' : Fit B20 (.base .history) (GHistory.mk (GNotebook.mk o.notebook.cells) o.nodes o.pos) := ho
    simp only [sL1HasInt_ok w _ hwl, iHasInt_ok w _ hwl, Option.bind_some]
    cases hh : hasI w o.pos with
    | false =>
      simp only [Bool.not_false, cond_true]
      obtain ⟨r, ok, r1, r2, r3, r4⟩ := undo_eq _ ho'
      simp only [r1, r2, Option.bind_some]
      cases ok with
      | true =>
        obtain ⟨⟨_, _, _, q4⟩, q5, q6, m, x, q7, q8, q9⟩ := r4 rfl
        refine .inl ⟨r, n - 1, ?_, ⟨r3, ?_⟩, rfl, rfl⟩ <;>
        · rcases q4 m x q8 with ⟨q, _⟩ | ⟨q, q'⟩
          · subst q; exact absurd q7 q5
          · have := hI.2; simp only at q7; omega
      | false =>
        simp only [Bool.not_false, cond_true, copyHistS _ ha', copyHistI _ ha', Option.bind_some]
        exact .inr ⟨_, rfl, rfl, ha⟩
    | true =>
      simp only [Bool.not_true, cond_false]
      obtain ⟨j, hj⟩ := hasI_get hh
      refine .inr (bindInr ?_)
      refine loop_both (fun (s : GHistory) (i : Nat) => (a.notebook.cells, a.nodes, a.pos, ([] : List GCell), ([] : List GNode), (0 : Int), w, s.notebook.cells, s.nodes, s.pos, o.pos, (i : Int)))
        (fun (s : GHistory) (i : Nat) => (a.notebook.cells, a.nodes, a.pos, ([] : List GCell), ([] : List GNode), (0 : Int), w, s.notebook.cells, s.nodes, s.pos, w, (w.length : Int), (i : Int)))
        w (fun k (s : GHistory) => Fit B20 (.base .history) s ∧ ((k ≤ j ∧ s.pos = o.pos) ∨ (j < k ∧ w[k - 1]? = some s.pos))) GoR
        (fun i x s hx hI => ?_) (fun s hI => ?_) o ⟨ho, .inl ⟨Nat.zero_le _, rfl⟩⟩
      · have hnat : w[(i : Int).toNat]? = some x := by rw [Int.toNat_natCast]; exact hx
        have hil := (List.getElem?_eq_some_iff.1 hx).1
        simp only [dec_lt hx, cond_true, idx_nat, hx, hnat, Option.bind_some, w_succ hx hwl]
        rcases hI with ⟨hs, ⟨hk, hp⟩ | ⟨hk, hp⟩⟩
        · have hle : x ≤ o.pos := by
            by_cases hij : i = j
            · subst hij; rw [hx] at hj; cases hj; exact Int.le_refl _
            · exact Int.le_of_lt (sorted_get z4 hx hj (by omega))
          simp only [decide_eq_true hle, cond_true]
          refine .inl ⟨s, rfl, ?_, hs, ?_⟩
          · by_cases hi0 : i = 0
            · subst hi0; rfl
            · have e0 : ((i : Int) == 0) = false := by simpa using hi0
              have hw : w64 ((i : Int) - 1) = ((i - 1 : Nat) : Int) := by
                rw [w64_id (by omega) (by omega)]; omega
              have hy := List.getElem?_eq_getElem (show i - 1 < w.length by omega)
              have hlt := sorted_get z4 hy hj (by omega)
              have hne : (w[i - 1] != s.pos) = true := by rw [hp]; simp; omega
              simp only [e0, cond_false, hw, idx_nat, hy, Option.bind_some, hne, cond_true]
          · by_cases hij : i = j
            · subst hij; exact .inr ⟨by omega, by rw [hp]; exact hj⟩
            · exact .inl ⟨by omega, hp⟩
        · have hlt := sorted_get z4 hj hx hk
          have e0 : ((i : Int) == 0) = false := by simp; omega
          have hw : w64 ((i : Int) - 1) = ((i - 1 : Nat) : Int) := by
            rw [w64_id (by omega) (by omega)]; omega
          have hs' : Fit B20 (.base .history) (GHistory.mk (GNotebook.mk s.notebook.cells) s.nodes s.pos) := hs
          obtain ⟨r, ok, r1, r2, r3, r4⟩ := redo_eq _ x hs'
          simp only [decide_eq_false (show ¬ x ≤ o.pos by omega), cond_false, e0, hw, idx_nat, hp, Option.bind_some, bne_self_i, r1, r2]
          cases ok with
          | true => exact .inl ⟨r, rfl, rfl, r3, .inr ⟨by omega, by rw [(r4 rfl).2, Nat.add_sub_cancel]; exact hx⟩⟩
          | false =>
            simp only [Bool.not_false, cond_true, copyHistS _ ha', copyHistI _ ha', Option.bind_some]
            exact .inr ⟨_, rfl, rfl, ha⟩
      · simp only [Int.lt_irrefl, decide_false, cond_false]
        exact ⟨_, rfl, rfl, hI.1⟩
theorem law_FnExactGoTo (a : GHistory) (b : Int) (ha : Fit B47 (.base .history) a) : FnExactGoTo a b = some true := by
  refine law1 (szHistory_ok a ha) _ (by omega) (by omega) fun pa r1 h0 h1 => ?_
  obtain ⟨⟨w, ok⟩, hs, hi, hw⟩ := goTo_eq a b pa
  obtain ⟨⟨y1, e1⟩, na, nw, y3, e3, e4, e5⟩ := histLaw pa hw
  simp only [toHistory_ok a pa, hs, hi, eqHistory_ok w hw, eqHistory_ok a pa, e1, e3, hist_mk e5, e4, Option.bind_some, Bool.not_true, cond_false, beq_self_eq_true,
    decide_eq_false (show ¬ (1 + (cntHistory a : Nat) : Int) < 0 by omega), decide_eq_false (show ¬ (1 + (cntHistory w : Nat) : Int) < 0 by omega), bne_self_i]
end Go.Proofs.Ytmfhbmfadapdbaa
