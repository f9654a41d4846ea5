/- What a loop carries: taken off a state and put back. -/
import Derived.Test.YtiedhibpaooldaaSound18
namespace Go.Abs
open Go.RowKit

theorem foldl_set {α β : Type} (f : β → Nat) (g : β → α) (d : α) : ∀ (l : List β) (init : List α) (t : Nat), (l.foldl (fun acc p => acc.set (f p) (g p)) init).length = init.length ∧
    ((l.foldl (fun acc p => acc.set (f p) (g p)) init).getD t d = init.getD t d ∧ (t < init.length → ∀ p ∈ l, f p ≠ t) ∨ ∃ p, p ∈ l ∧ f p = t ∧ (l.foldl (fun acc p => acc.set (f p) (g p)) init).getD t d = g p)
  | [], init, t => ⟨rfl, .inl ⟨rfl, fun _ p hp => by cases hp⟩⟩
  | p :: r, init, t => by
    obtain ⟨h1, h2⟩ := foldl_set f g d r (init.set (f p) (g p)) t
    simp only [List.foldl_cons]
    refine ⟨by rw [h1]; simp, ?_⟩
    rcases h2 with ⟨h2, h3⟩ | ⟨q, hq, e1, e2⟩
    · by_cases he : f p = t
      · by_cases hl : t < init.length
        · refine .inr ⟨p, List.mem_cons_self, he, ?_⟩
          rw [h2, List.getD_eq_getElem?_getD, List.getElem?_set, if_pos he, if_pos (by omega)]
          rfl
        · refine .inl ⟨?_, fun hl' => absurd hl' hl⟩
          rw [h2, List.set_eq_of_length_le (by omega)]
      · refine .inl ⟨?_, fun hl q hq => ?_⟩
        · rw [h2, List.getD_eq_getElem?_getD, List.getElem?_set, if_neg he, ← List.getD_eq_getElem?_getD]
        · rcases List.mem_cons.1 hq with rfl | hq
          · exact he
          · exact h3 (by simpa using hl) q hq
    · exact .inr ⟨q, List.mem_cons_of_mem _ hq, e1, e2⟩

section loops
variable {w0 : Bs} {G : Gh} {S : St} {a : Act} {w : World}

theorem base_getT (la : LA) (t : Nat) : la.base.getT t = .undef ∨ ∃ p, p ∈ la.ptrs ∧ p.1 = t ∧ la.base.getT t = .v (.one (.ptr p.2.1 p.2.2)) := by
  have := (foldl_set (fun p : Nat × Nat × Nat => p.1) (fun p => AV.v (.one (.ptr p.2.1 p.2.2))) AV.undef la.ptrs (List.replicate la.n .undef) t).2
  rcases this with ⟨h1, _⟩ | h1
  · left
    have e : la.base.getT t = (la.ptrs.foldl (fun acc (p : Nat × Nat × Nat) => acc.set p.1 (AV.v (.one (.ptr p.2.1 p.2.2)))) (List.replicate la.n AV.undef)).getD t .undef := rfl
    rw [e, h1, List.getD_eq_getElem?_getD, List.getElem?_replicate]
    split <;> rfl
  · exact .inr h1
theorem base_getB (la : LA) (t : Nat) : (la.base.getB t = none ∧ (t < la.n → ∀ p ∈ la.boxes, p.1 ≠ t)) ∨ ∃ p, p ∈ la.boxes ∧ p.1 = t ∧ la.base.getB t = some (List.replicate p.2 .undef) := by
  have := (foldl_set (fun p : Nat × Nat => p.1) (fun p => some (List.replicate p.2 C.undef)) none la.boxes (List.replicate la.n none) t).2
  rcases this with ⟨h1, h2⟩ | h1
  · left
    refine ⟨?_, by simpa using h2⟩
    have e : la.base.getB t = (la.boxes.foldl (fun acc (p : Nat × Nat) => acc.set p.1 (some (List.replicate p.2 C.undef))) (List.replicate la.n none)).getD t none := rfl
    rw [e, h1, List.getD_eq_getElem?_getD, List.getElem?_replicate]
    split <;> rfl
  · exact .inr h1
theorem base_getO (la : LA) (t : Nat) : la.base.getO t = [] := by
  show (List.replicate la.n ([] : List O)).getD t [] = _
  rw [List.getD_eq_getElem?_getD, List.getElem?_replicate]
  split <;> rfl
theorem base_len (la : LA) : la.base.tmps.length = la.n ∧ la.base.boxes.length = la.n ∧ la.base.owns.length = la.n := by
  refine ⟨?_, ?_, ?_⟩
  · have := (foldl_set (fun p : Nat × Nat × Nat => p.1) (fun p => AV.v (.one (.ptr p.2.1 p.2.2))) AV.undef la.ptrs (List.replicate la.n .undef) 0).1
    simpa [LA.base] using this
  · have := (foldl_set (fun p : Nat × Nat => p.1) (fun p => some (List.replicate p.2 C.undef)) none la.boxes (List.replicate la.n none) 0).1
    simpa [LA.base] using this
  · simp [LA.base]

/-- the boxes that are carried -/
def inBoxes (la : LA) (i : Nat) : Prop := ∃ n, (i, n) ∈ la.boxes

open Classical in
theorem base_inv (h : Inv w0 G S a w) {la : LA} (hn : S.tmps.length = la.n) {u : Unit} (hb : (boxesOk la.boxes).val S = some u) {u' : Unit} (hp : (ptrsOk la.ptrs).val S = some u')
    (hpb : la.ptrs.all (fun p => la.boxes.any fun q => q.1 == p.2.1) = true) (roks : List (Nat × Nat)) :
    ∃ G0, Inv w0 G0 la.base a w ∧ G0.bk = G.bk ∧ (∀ b o, (G.S b o ∨ AK G S roks b o) ↔ G0.S b o) ∧ (∀ c k j, G0.ow c ≠ some (.own k j)) ∧ (∀ c i, G0.ow c = some (.box i) → G.ow c = some (.box i)) := by
  let ow0 : Nat → Option Owner := fun b => match G.ow b with
    | some (.box i) => if inBoxes la i then some (.box i) else none
    | _ => none
  let G0 : Gh := { bk := G.bk, ov := G.ov, ow := ow0, S := fun b o => G.S b o ∨ AK G S roks b o, lk := fun _ => False, lb := inBoxes la }
  have hbox0 : ∀ c i, G0.ow c = some (.box i) → G.ow c = some (.box i) ∧ inBoxes la i := by
    intro c i hc
    have hc' : (match G.ow c with | some (.box i) => if inBoxes la i then some (Owner.box i) else none | _ => none) = some (.box i) := hc
    split at hc'
    · rename_i j hj
      split at hc'
      · rename_i hin; cases hc'; exact ⟨hj, hin⟩
      · cases hc'
    · cases hc'
  have hnown : ∀ c k j, G0.ow c ≠ some (.own k j) := by
    intro c k j hc
    have hc' : (match G.ow c with | some (.box i) => if inBoxes la i then some (Owner.box i) else none | _ => none) = some (.own k j) := hc
    split at hc'
    · split at hc' <;> cases hc'
    · cases hc'
  obtain ⟨l1, l2, l3⟩ := base_len la
  have hblt : ∀ i n, (i, n) ∈ la.boxes → i < la.n := by
    intro i n hm
    obtain ⟨cs, hcs, _⟩ := boxesOk_get hb i n hm
    have : i < S.boxes.length := by
      rcases Nat.lt_or_ge i S.boxes.length with hl | hl
      · exact hl
      · simp [St.getB, List.getD_eq_getElem?_getD, List.getElem?_eq_none hl] at hcs
    rw [h.bsz, hn] at this
    exact this
  refine ⟨G0, ⟨h.below, h.nodef, by rw [h.tsz, hn, l1], by rw [l1, l2], by rw [l1, l3], ?_, ?_, ?_, ?_, ?_, fun k hk => hk.elim, ?_, fun b o hs hl => hs.elim (fun hs => h.sfr b o hs hl) fun ⟨_, _, _, _, _, _, _, _, how, _⟩ => absurd (h.olt _ _ how).1 (by omega)⟩, rfl, fun b o => Iff.rfl, hnown, fun c i hc => (hbox0 c i hc).1⟩
  · intro i v hv
    rcases base_getT la i with he | ⟨⟨i', b, off⟩, hm, rfl, he⟩
    · rw [he]; trivial
    · rw [he]
      have hr := h.tmps _ v hv
      rw [ptrsOk_get hp _ b off hm] at hr
      have := List.all_eq_true.1 hpb _ hm
      obtain ⟨⟨b', n⟩, hm', hbb⟩ := List.any_eq_true.1 this
      simp at hbb
      exact ⟨⟨n, hbb ▸ hm'⟩, hr.2⟩
  · intro b x hx
    cases x with
    | box i => exact h.olt _ _ (hbox0 b i hx).1
    | own k j => exact absurd hx (hnown b k j)
  · intro b o hs
    refine ⟨?_, fun i hi => ?_⟩
    · rcases hs with hs | ⟨k, j, _, _, _, _, _, _, how, _⟩
      · exact (h.sok b o hs).1
      · exact (h.olt _ _ how).2
    · have hi' := (hbox0 b i hi).1
      rcases hs with hs | ⟨k, j, _, _, _, _, _, _, how, _⟩
      · exact (h.sok b o hs).2 i hi'
      · rw [how] at hi'; cases hi'
  · intro i cs hcs
    rcases base_getB la i with ⟨he, _⟩ | ⟨⟨i', n⟩, hm, rfl, he⟩
    · rw [he] at hcs; cases hcs
    · rw [he] at hcs
      cases hcs
      obtain ⟨cs0, hcs0, hl0⟩ := boxesOk_get hb _ n hm
      obtain ⟨ho, vs, E, hh, hr⟩ := h.box _ cs0 hcs0
      refine ⟨?_, vs, E, hh, ?_⟩
      · show (match G.ow (G.bk i') with | some (.box i) => if inBoxes la i then some (Owner.box i) else none | _ => none) = _
        rw [ho]
        exact if_pos ⟨n, hm⟩
      · have hlen := hr.length
        refine CsRep.mk (by simp; omega) fun j c v hc hv => ?_
        have : c = .undef := (List.mem_replicate.1 (List.mem_of_getElem? hc)).2
        subst this
        exact hr.one v (List.mem_of_getElem? hv)
  · intro k j
    rw [base_getO]
    trivial
  · intro i hi
    obtain ⟨n, hm⟩ := hi
    rcases base_getB la i with ⟨_, he⟩ | ⟨p, _, _, he⟩
    · exact absurd rfl (he (hblt i n hm) _ hm)
    · rw [he]; simp

theorem nodupN_cons {x : Nat} {r : List Nat} (h : nodupN (x :: r) = true) : x ∉ r ∧ nodupN r = true := by
  simp only [nodupN, Bool.and_eq_true, Bool.not_eq_true', List.any_eq_false, beq_iff_eq] at h
  exact ⟨fun hx => h.1 x hx rfl, h.2⟩

/-- One item. -/
theorem putI_inv (h : Inv w0 G S a w) {G1 : Gh} (hbk : G.bk = G1.bk) {it : It} {x : it.sr.den} {v : Value} {lab : Nat → Prop} (hv : cellV G1 a w it v) (hok : ItOk G.S w it x v lab)
    (hlab : ∀ c, lab c → w0.w.heap.size ≤ c ∧ c < w.heap.size ∧ (∀ i, G.ow c ≠ some (.box i)) ∧ ∀ k j, G.ow c ≠ some (.own k j)) (hbx : ∀ b off s, it = .b b off s → ∃ cs, S.getB b = some cs)
    (hk : ∀ key, key ∈ newKeys [it] → key < S.tmps.length ∧ S.getO key = []) :
    ∃ G', Inv w0 G' (S.putI it x) a w ∧ G'.bk = G.bk ∧ G'.S = G.S ∧ (∀ c y, G'.ow c = some y → G.ow c = some y ∨ (lab c ∧ ∀ i, y ≠ .box i)) ∧ (∀ b, (∃ cs, S.getB b = some cs) → ∃ cs, (S.putI it x).getB b = some cs) ∧
      (∀ key, key ∉ newKeys [it] → (S.putI it x).getO key = S.getO key) ∧ (S.putI it x).tmps.length = S.tmps.length := by
  have hv' : cellV G a w it v := by
    cases it with
    | t i s => exact hv
    | b b off s => show w.cell? ⟨G.bk b, off, none⟩ = _; rw [hbk]; exact hv
  unfold ItOk at hok
  unfold St.putI
  generalize hsr : it.sr = sr at *
  unfold SrOk at hok
  cases sr with
  | ro t =>
    obtain ⟨d, hd, hrep⟩ := hok
    have hdo : dOf t x = .d d := by unfold dOf; rw [hd]
    simp only [hdo]
    exact ⟨G, h.putC hv' (c := .d d) hrep hbx, rfl, rfl, fun c y hc => .inl hc, fun b hb => getB_putC S it _ b hb, fun key _ => getO_putC S it _ key, tmps_putC S it _⟩
  | own t deep m key =>
    have hkey : key ∈ newKeys [it] := by simp [newKeys, hsr]
    obtain ⟨hkl, hkO⟩ := hk key hkey
    classical
    obtain ⟨G', h', hm, hlk, hov, hbk', hS', how'⟩ := h.newOwnsX key [.own t x deep m] (fun _ => v) (fun c => if lab c then some 0 else none) hkO hkl (by simp)
      (fun c j hc => by
        by_cases hl : lab c
        · obtain ⟨q1, q2, q3, q4⟩ := hlab c hl
          exact ⟨q1, q2, q3, fun k' j' _ _ _ _ hb => absurd hb (q4 k' j')⟩
        · rw [if_neg hl] at hc; cases hc)
      (fun j => by
        cases j with
        | zero =>
          show OwT w G.S deep m t x v _
          exact OwT.move hok (fun b o hs => ⟨hs, rfl⟩) (fun b hb => ⟨if_pos hb, rfl⟩) (fun _ _ _ _ _ o hs => .inl hs)
        | succ j => trivial)
    have h1 : Inv w0 G' ((S.setO key [.own t x deep m]).putC it (.own key 0)) a w := by
      refine h'.putC (v := v) ?_ ⟨hlk, (hov 0).symm, (OwT.ow hok).one⟩ fun b off s he => hbx b off s he
      cases it with
      | t i s => exact hv'
      | b b off s => show w.cell? ⟨G'.bk b, off, none⟩ = _; rw [hbk']; exact hv'
    refine ⟨G', h1, hbk', hS', fun c y hc => ?_, fun b hb => getB_putC _ it _ b hb, fun key' hne => ?_, ?_⟩
    · rw [how'] at hc
      by_cases hl : lab c
      · rw [if_pos hl] at hc
        refine .inr ⟨hl, fun i e => ?_⟩
        rw [e] at hc; cases hc
      · rw [if_neg hl] at hc; exact .inl hc
    · show ((S.setO key _).putC it _).getO key' = _
      rw [getO_putC, getO_setO, if_neg (fun e : key = key' ∧ _ => hne (e.1 ▸ hkey))]
    · show ((S.setO key _).putC it _).tmps.length = _
      rw [tmps_putC]; rfl
end loops
end Go.Abs
