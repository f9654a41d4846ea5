/- Loops: what is carried is what was there. -/
import Derived.Test.YtiedhibpaooldaaSound19
namespace Go.Abs
open Go.RowKit

section loops
variable {w0 : Bs} {G : Gh} {S : St} {a : Act} {w : World}

theorem newKeys_cons (it : It) (r : List It) : newKeys (it :: r) = newKeys [it] ++ newKeys r := by
  simp only [newKeys]
  split <;> rfl

/-- One item, from what is known of its cell in the old state. -/
theorem one_inv {G1 : Gh} {roks used : List (Nat × Nat)} {S1 : St} (h1 : Inv w0 G1 S1 a w) (h : Inv w0 G S a w) (hbk : G.bk = G1.bk) (hS : ∀ b o, (G1.S b o ∨ AK G1 S1 roks b o) ↔ G.S b o)
    (hown : ∀ b k j, G.ow b = some (.own k j) → ∃ k' j', (k', j') ∈ used ∧ G1.ow b = some (.own k' j')) (hbox : ∀ b i, G.ow b = some (.box i) → G1.ow b = some (.box i))
    {it : It} {y : it.sr.den} {c : C} (hc : (cAt it).val S1 = some c) (hy : (getC it.sr c).val S1 = some y) (hro : ∀ t, it.sr = .ro t → ∀ k j, c = .own k j → (k, j) ∈ roks)
    (hnew : ∀ t deep m key, it.sr = .own t deep m key → ∀ k j, c = .own k j → (k, j) ∉ used ∧ (k, j) ∉ roks) (hk : ∀ key, key ∈ newKeys [it] → key < S.tmps.length ∧ S.getO key = [])
    (hbx : ∀ b off s, it = .b b off s → ∃ cs, S.getB b = some cs) :
    ∃ G2, Inv w0 G2 (S.putI it y) a w ∧ G2.bk = G1.bk ∧ (∀ b o, (G1.S b o ∨ AK G1 S1 roks b o) ↔ G2.S b o) ∧ (∀ b k j, G2.ow b = some (.own k j) → ∃ k' j', (k', j') ∈ used ++ ownKeys [c] ∧ G1.ow b = some (.own k' j')) ∧
      (∀ b i, G2.ow b = some (.box i) → G1.ow b = some (.box i)) ∧ (∀ b, (∃ cs, S.getB b = some cs) → ∃ cs, (S.putI it y).getB b = some cs) ∧ (∀ key, key ∉ newKeys [it] → (S.putI it y).getO key = S.getO key) ∧ (S.putI it y).tmps.length = S.tmps.length := by
  obtain ⟨v, hv, hcr⟩ := cAt_rep h1 hc
  have hok := getC_ok h1 hy hcr (S0 := G.S) roks (fun b o hs => (hS b o).1 hs) hro (fun k j e ⟨t, deep, m, key, hsr⟩ b o hs hb => by
    rcases (hS b o).2 hs with hs | ⟨k', j', _, _, _, _, hmem, _, how, _⟩
    · exact hs
    · rw [hb] at how
      cases how
      exact absurd hmem (hnew t deep m key hsr k j e).2)
  have hex : ∃ lab : Nat → Prop, ItOk G.S w it y v lab ∧ ∀ b, lab b → ∃ k j, c = .own k j ∧ G1.ow b = some (.own k j) ∧ ∃ t deep m key, it.sr = .own t deep m key := by
    have key : ∀ (sr : Sr) (z : sr.den), SrOk G.S w sr z v (fun b => ∃ k j, c = .own k j ∧ G1.ow b = some (.own k j) ∧ ∃ t xs deep m, oget (S1.getO k) j = .own t xs deep m) →
        ∃ lab : Nat → Prop, SrOk G.S w sr z v lab ∧ ∀ b, lab b → ∃ k j, c = .own k j ∧ G1.ow b = some (.own k j) ∧ ∃ t deep m key, sr = .own t deep m key := by
      intro sr z hz
      cases sr with
      | ro t => exact ⟨fun _ => False, hz, fun _ hb => hb.elim⟩
      | own t deep m key => exact ⟨_, hz, fun b ⟨k, j, e1, e2, _⟩ => ⟨k, j, e1, e2, t, deep, m, key, rfl⟩⟩
    exact key it.sr y hok
  obtain ⟨lab, hit, hlab⟩ := hex
  obtain ⟨G2, q1, q2, q3, q4, q5, q6, q7⟩ := putI_inv h hbk hv hit (fun b hb => by
    obtain ⟨k, j, e1, e2, t, deep, m, key, hsr⟩ := hlab b hb
    have hlt := h1.olt _ _ e2
    refine ⟨hlt.1, hlt.2, fun i hi => ?_, fun k' j' hi => ?_⟩
    · rw [hbox b i hi] at e2; cases e2
    · obtain ⟨k2, j2, hm, e3⟩ := hown b k' j' hi
      rw [e2] at e3
      cases e3
      exact (hnew t deep m key hsr k j e1).1 hm) hbx hk
  refine ⟨G2, q1, q2.trans hbk, fun b o => by rw [q3]; exact hS b o, fun b k j hb => ?_, fun b i hb => ?_, q5, q6, q7⟩
  · rcases q4 b _ hb with hb | ⟨hb, _⟩
    · obtain ⟨k', j', hm, e⟩ := hown b k j hb
      exact ⟨k', j', List.mem_append_left _ hm, e⟩
    · obtain ⟨k', j', e1, e2, _⟩ := hlab b hb
      exact ⟨k', j', List.mem_append_right _ (by rw [e1]; simp [ownKeys]), e2⟩
  · rcases q4 b _ hb with hb | ⟨_, hb⟩
    · exact hbox b i hb
    · exact absurd rfl (hb i)

/-- The items, one by one. -/
theorem putIs_inv {G1 : Gh} {roks : List (Nat × Nat)} {S1 : St} (h1 : Inv w0 G1 S1 a w) : ∀ (l : List It) (x : Its l) (p : List (Nat × Nat) × List (Nat × Nat)) (used : List (Nat × Nat)) {G : Gh} {S : St}, Inv w0 G S a w → G.bk = G1.bk →
    (∀ b o, (G1.S b o ∨ AK G1 S1 roks b o) ↔ G.S b o) → (∀ b k j, G.ow b = some (.own k j) → ∃ k' j', (k', j') ∈ used ∧ G1.ow b = some (.own k' j')) → (∀ b i, G.ow b = some (.box i) → G1.ow b = some (.box i)) →
    (getIs l).val S1 = some x → (keysOf l).val S1 = some p → nodupB p.1 = true → (∀ q, q ∈ p.1 → q ∉ used ∧ q ∉ roks) → (∀ q, q ∈ p.2 → q ∈ roks) →
    nodupN (newKeys l) = true → (∀ key, key ∈ newKeys l → key < S.tmps.length ∧ S.getO key = []) → (∀ b off s, It.b b off s ∈ l → ∃ cs, S.getB b = some cs) →
    ∃ G', Inv w0 G' (S.putIs l x) a w
  | [], x, p, used, G, S, h, _, _, _, _, _, _, _, _, _, _, _, _ => ⟨G, h⟩
  | it :: r, x, p, used, G, S, h, hbk, hS, hown, hbox, hx, hp, hnd, hq1, hq2, hnk, hkO, hbx => by
    simp only [keysOf, Rd.val_bind, Option.bind_eq_some_iff] at hp
    obtain ⟨c, hc, p', hp', hp⟩ := hp
    have hro : ∀ t, it.sr = .ro t → ∀ k j, c = .own k j → (k, j) ∈ roks := by
      intro t hsr k j e
      rw [hsr] at hp
      simp only [Rd.val, Option.some.injEq] at hp
      subst hp
      subst e
      exact hq2 _ (by simp [ownKeys])
    have hnew : ∀ t deep m key, it.sr = .own t deep m key → ∀ k j, c = .own k j → (k, j) ∉ used ∧ (k, j) ∉ roks := by
      intro t deep m key hsr k j e
      rw [hsr] at hp
      simp only [Rd.val, Option.some.injEq] at hp
      subst hp
      subst e
      exact hq1 _ (by simp [ownKeys])
    -- the rest's keys
    have hrest : nodupB p'.1 = true ∧ (∀ q, q ∈ p'.1 → q ∉ used ++ ownKeys [c] ∧ q ∉ roks) ∧ (∀ q, q ∈ p'.2 → q ∈ roks) := by
      cases hsr : it.sr with
      | ro t =>
        rw [hsr] at hp
        simp only [Rd.val, Option.some.injEq] at hp
        subst hp
        refine ⟨hnd, fun q hq => ⟨fun hm => ?_, (hq1 q hq).2⟩, fun q hq => hq2 q (List.mem_append_right _ hq)⟩
        rcases List.mem_append.1 hm with hm | hm
        · exact (hq1 q hq).1 hm
        · exact (hq1 q hq).2 (hq2 q (List.mem_append_left _ hm))
      | own t deep m key =>
        rw [hsr] at hp
        simp only [Rd.val, Option.some.injEq] at hp
        subst hp
        have hcase : nodupB p'.1 = true ∧ ∀ q, q ∈ ownKeys [c] → q ∉ p'.1 := by
          cases c with
          | own k j =>
            have hnd' : nodupB ((k, j) :: p'.1) = true := hnd
            obtain ⟨e1, e2⟩ := nodupB_cons hnd'
            exact ⟨e2, fun q hq => by simp [ownKeys] at hq; rw [hq]; exact e1⟩
          | undef => exact ⟨hnd, fun q hq => by cases hq⟩
          | d x => exact ⟨hnd, fun q hq => by cases hq⟩
          | nil => exact ⟨hnd, fun q hq => by cases hq⟩
          | ptr b off => exact ⟨hnd, fun q hq => by cases hq⟩
        refine ⟨hcase.1, fun q hq => ⟨fun hm => ?_, (hq1 q (List.mem_append_right _ hq)).2⟩, hq2⟩
        rcases List.mem_append.1 hm with hm | hm
        · exact (hq1 q (List.mem_append_right _ hq)).1 hm
        · exact hcase.2 q hm hq
    have hk1 : ∀ key, key ∈ newKeys [it] → key < S.tmps.length ∧ S.getO key = [] := fun key hm => hkO key (by rw [newKeys_cons]; exact List.mem_append_left _ hm)
    have hbx1 : ∀ b off s, it = .b b off s → ∃ cs, S.getB b = some cs := fun b off s e => hbx b off s (e ▸ List.mem_cons_self)
    cases r with
    | nil =>
      have hx' : (getI it).val S1 = some x := hx
      simp only [getI, Rd.val_bind, Option.bind_eq_some_iff] at hx'
      obtain ⟨c', hc', hy⟩ := hx'
      rw [hc] at hc'
      cases hc'
      obtain ⟨G2, q1, _⟩ := one_inv h1 h hbk hS hown hbox hc hy hro hnew hk1 hbx1
      exact ⟨G2, q1⟩
    | cons it2 r =>
      simp only [getIs, Rd.val_bind, Option.bind_eq_some_iff, Rd.val, Option.some.injEq] at hx
      obtain ⟨x1, hx1, x2, hx2, rfl⟩ := hx
      simp only [getI, Rd.val_bind, Option.bind_eq_some_iff] at hx1
      obtain ⟨c', hc', hy⟩ := hx1
      rw [hc] at hc'
      cases hc'
      obtain ⟨G2, q1, q2, q3, q4, q5, q6, q7, q8⟩ := one_inv h1 h hbk hS hown hbox hc hy hro hnew hk1 hbx1
      have hnd2 : nodupN (newKeys (it2 :: r)) = true ∧ ∀ key, key ∈ newKeys [it] → key ∉ newKeys (it2 :: r) := by
        rw [newKeys_cons] at hnk
        cases hsr : it.sr with
        | ro t =>
          have : newKeys [it] = [] := by simp [newKeys, hsr]
          rw [this] at hnk ⊢
          exact ⟨hnk, fun key hm => by cases hm⟩
        | own t deep m key =>
          have : newKeys [it] = [key] := by simp [newKeys, hsr]
          rw [this] at hnk ⊢
          obtain ⟨e1, e2⟩ := nodupN_cons hnk
          exact ⟨e2, fun key' hm => by simp at hm; rw [hm]; exact e1⟩
      refine putIs_inv h1 (it2 :: r) x2 p' (used ++ ownKeys [c]) q1 q2 q3 q4 q5 hx2 hp' hrest.1 hrest.2.1 hrest.2.2 hnd2.1 (fun key hm => ?_) fun b off s hm => q6 b (hbx b off s (List.mem_cons_of_mem _ hm))
      have hne : key ∉ newKeys [it] := fun hm' => hnd2.2 key hm' hm
      have := hkO key (by rw [newKeys_cons]; exact List.mem_append_right _ hm)
      rw [q7 key hne, q8]
      exact this

theorem la_sound (h : Inv w0 G S a w) {la : LA} {x : Its la.its} (hx : la.get.val S = some x) : ∃ G', Inv w0 G' (la.put x) a w := by
  simp only [LA.get, Rd.val] at hx
  split at hx
  case isFalse => cases hx
  rename_i hg
  obtain ⟨hn, hnk, hkl, hpb, hib⟩ := hg
  simp only [Rd.val_bind, Option.bind_eq_some_iff] at hx
  obtain ⟨u, hb, u', hp, p, hk, hx⟩ := hx
  split at hx
  case isFalse => cases hx
  rename_i hc
  rw [Bool.and_eq_true] at hc
  obtain ⟨G0, h0, e1, e2, e3, e4⟩ := base_inv h hn hb hp hpb p.2
  refine putIs_inv h la.its x p [] h0 e1 e2 (fun b k j hh => absurd hh (e3 b k j)) e4 hx hk hc.1 (fun q hq => ⟨by simp, fun hm => ?_⟩) (fun q hq => hq) hnk (fun key hm => ?_) fun b off s hm => ?_
  · have := List.all_eq_true.1 hc.2 q hq
    simp only [Bool.not_eq_true', List.any_eq_false, Bool.and_eq_true, beq_iff_eq, not_and] at this
    exact this q hm rfl rfl
  · have := List.all_eq_true.1 hkl key hm
    rw [(base_len la).1]
    exact ⟨by simpa using this, base_getO la key⟩
  · have := List.all_eq_true.1 hib _ hm
    simp only at this
    obtain ⟨⟨b', n⟩, hm', hbb⟩ := List.any_eq_true.1 this
    simp at hbb
    subst hbb
    obtain ⟨cs, hcs, _⟩ := boxesOk_get hb b' n hm'
    have hlt : b' < la.n := by
      have : b' < S.boxes.length := by
        rcases Nat.lt_or_ge b' S.boxes.length with hl | hl
        · exact hl
        · simp [St.getB, List.getD_eq_getElem?_getD, List.getElem?_eq_none hl] at hcs
      rw [h.bsz, hn] at this
      exact this
    rcases base_getB la b' with ⟨_, he⟩ | ⟨q, _, _, he⟩
    · exact absurd rfl (he hlt _ hm')
    · exact ⟨_, he⟩
end loops

theorem iter_mono {X ρ : Type} {f : X → Option (X ⊕ ρ)} : ∀ {n : Nat} {x : X} {r : ρ}, iter f n x = some r → ∀ {m : Nat} {r' : ρ}, iter f m x = some r' → r = r'
  | 0, x, r, h, _, _, _ => by cases h
  | n + 1, x, r, h, 0, r', h' => by cases h'
  | n + 1, x, r, h, m + 1, r', h' => by
    simp only [iter] at h h'
    split at h
    · cases h
    · rename_i y hy
      rw [hy] at h'
      exact iter_mono h h'
    · rename_i r0 hy
      rw [hy] at h'
      simp only [Option.some.injEq] at h h'
      rw [← h, ← h']
theorem loopD_iter {X ρ : Type} {f : X → Option (X ⊕ ρ)} {x : X} {r : ρ} (h : loopD f x = some r) : ∃ n, iter f n x = some r := by
  unfold loopD at h
  split at h
  · rename_i hh
    simp only [Option.some.injEq] at h
    have := hh.choose_spec.choose_spec
    rw [h] at this
    exact ⟨_, this⟩
  · cases h
/-- A loop is what its round makes it. -/
theorem loopD_eq {X ρ : Type} (f : X → Option (X ⊕ ρ)) (x : X) : loopD f x = match f x with
    | none => none
    | some (.inl y) => loopD f y
    | some (.inr r) => some r := by
  have up : ∀ {y : X} {r : ρ} {n : Nat}, iter f n y = some r → loopD f y = some r := by
    intro y r n hn
    have hh : ∃ n r, iter f n y = some r := ⟨n, r, hn⟩
    unfold loopD
    rw [dif_pos hh]
    exact congrArg some (iter_mono hh.choose_spec.choose_spec hn)
  have none_of : ∀ {y : X}, (∀ n r, iter f n y ≠ some r) → loopD f y = none := by
    intro y hy
    unfold loopD
    rw [dif_neg]
    rintro ⟨n, r, h⟩
    exact hy n r h
  split
  · rename_i hf
    refine none_of fun n r hn => ?_
    cases n with
    | zero => cases hn
    | succ n => simp only [iter, hf] at hn; cases hn
  · rename_i y hf
    cases hl : loopD f y with
    | some r =>
      obtain ⟨n, hn⟩ := loopD_iter hl
      exact up (n := n + 1) (by simp only [iter, hf]; exact hn)
    | none =>
      refine none_of fun n r hn => ?_
      cases n with
      | zero => cases hn
      | succ n =>
        simp only [iter, hf] at hn
        rw [up hn] at hl
        cases hl
  · rename_i r hf
    exact up (n := 1) (by simp only [iter, hf])
end Go.Abs
