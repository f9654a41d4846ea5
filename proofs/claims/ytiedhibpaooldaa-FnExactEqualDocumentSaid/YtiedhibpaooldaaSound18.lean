/- What a loop carries. -/
import Derived.Test.YtiedhibpaooldaaSound17
namespace Go.Abs
open Go.RowKit

section loops
variable {w0 : Bs} {G : Gh} {S : St} {a : Act} {w : World}

theorem boxesOk_get : ∀ {l : List (Nat × Nat)} {u : Unit}, (boxesOk l).val S = some u → ∀ b n, (b, n) ∈ l → ∃ cs, S.getB b = some cs ∧ cs.length = n
  | [], _, _, b, n, hm => by cases hm
  | (b0, n0) :: r, u, h, b, n, hm => by
    simp only [boxesOk, Rd.val] at h
    split at h
    · rename_i cs hcs
      split at h
      · rename_i hl
        rcases List.mem_cons.1 hm with he | hm
        · cases he; exact ⟨cs, hcs, hl⟩
        · exact boxesOk_get h b n hm
      · cases h
    · cases h
theorem ptrsOk_get : ∀ {l : List (Nat × Nat × Nat)} {u : Unit}, (ptrsOk l).val S = some u → ∀ i b off, (i, b, off) ∈ l → S.getT i = .v (.one (.ptr b off))
  | [], _, _, i, b, off, hm => by cases hm
  | (i0, b0, off0) :: r, u, h, i, b, off, hm => by
    simp only [ptrsOk, Rd.val] at h
    split at h
    · rename_i b' off' he
      split at h
      · rename_i hl
        obtain ⟨rfl, rfl⟩ := hl
        rcases List.mem_cons.1 hm with he' | hm
        · cases he'; exact he
        · exact ptrsOk_get h i b off hm
      · cases h
    · cases h

/-- the value of a cell that is carried -/
def cellV (G : Gh) (a : Act) (w : World) : It → Value → Prop
  | .t i _, v => a.tmps.getD i undef = v
  | .b b off _, v => w.cell? ⟨G.bk b, off, none⟩ = some v

theorem cAt_rep (h : Inv w0 G S a w) {it : It} {c : C} (hc : (cAt it).val S = some c) : ∃ v, cellV G a w it v ∧ CRep G w c v := by
  cases it with
  | t i s =>
    simp only [cAt, Rd.val] at hc
    have hr := h.getT i
    unfold avC at hc
    split at hc
    · rename_i c' he
      simp only [Rd.val, Option.some.injEq] at hc
      subst hc
      rw [he] at hr
      exact ⟨_, rfl, hr⟩
    · cases hc
  | b b off s =>
    simp only [cAt, Rd.val] at hc
    split at hc
    · rename_i cs hcs
      simp only [Rd.val, Option.bind_eq_some_iff, Option.some.injEq] at hc
      obtain ⟨c', hc', rfl⟩ := hc
      obtain ⟨_, vs, E, hh, hr⟩ := h.box b cs hcs
      obtain ⟨hl, hg⟩ := hr.get
      have hlt : off < vs.length := by have := (List.getElem?_eq_some_iff.1 hc').1; omega
      refine ⟨vs[off], ?_, hg off c' vs[off] hc' (by simp [hlt])⟩
      show w.cell? _ = _
      rw [cell_of_row _ _ _ _ _ _ hh]; simp [hlt]
    · cases hc

/-- what is known of a carried cell: 'lab': its rows -/
def SrOk (S0 : Nat → Nat → Prop) (w : World) : (sr : Sr) → sr.den → Value → (Nat → Prop) → Prop
  | .ro t, x, v, _ => ∃ d, t.cells x = [d] ∧ Rep w S0 d v
  | .own t deep m _, xs, v, lab => OwT w S0 deep m t xs v lab
def ItOk (S0 : Nat → Nat → Prop) (w : World) (it : It) (x : it.sr.den) (v : Value) (lab : Nat → Prop) : Prop := SrOk S0 w it.sr x v lab

theorem getC_ok (h : Inv w0 G S a w) {sr : Sr} {c : C} {x : sr.den} {v : Value} (hx : (getC sr c).val S = some x) (hc : CRep G w c v) {S0 : Nat → Nat → Prop} (roks : List (Nat × Nat))
    (hS : ∀ b o, (G.S b o ∨ AK G S roks b o) → S0 b o) (hro : ∀ t, sr = .ro t → ∀ k j, c = .own k j → (k, j) ∈ roks)
    (hT : ∀ k j, c = .own k j → (∃ t deep m key, sr = .own t deep m key) → ∀ b o, S0 b o → G.ow b = some (.own k j) → G.S b o) :
    SrOk S0 w sr x v (fun b => ∃ k j, c = .own k j ∧ G.ow b = some (.own k j) ∧ ∃ t xs deep m, oget (S.getO k) j = .own t xs deep m) := by
  cases sr with
  | ro t =>
    simp only [getC] at hx
    split at hx
    · rename_i hsc
      simp only [Rd.val_bind, Option.bind_eq_some_iff, Rd.val, Option.some.injEq] at hx
      obtain ⟨ds, h1, y, h2, h3⟩ := hx
      subst h3
      have htl : t.tys.length = 1 := by
        rw [tys_length]
        cases t with
        | base b => cases b <;> first | rfl | cases hsc
        | list t => rfl
      obtain ⟨hl, hg⟩ := cDs_len h1 (by simpa using htl)
      match ds, hl with
      | [d], _ =>
        obtain ⟨c', ty, hc', hcd⟩ := hg 0 d rfl
        simp at hc'
        subst hc'
        refine ⟨d, (Ty.ofCells_some h2), ?_⟩
        exact (cD_rep h hcd hc roks fun k j e => hro t rfl k j e).move fun b o hs => ⟨hS b o hs, rfl⟩
    · cases hx
  | own t deep m key =>
    simp only [getC] at hx
    split at hx
    · simp only [Rd.val, Option.some.injEq] at hx
      subst hx
      exact .inl ⟨hc, rfl⟩
    · rename_i k j
      simp only [Rd.val] at hx
      split at hx
      · rename_i t' xs deep' m' hown
        split at hx
        · rename_i htt
          subst htt
          split at hx
          · rename_i hfl
            simp only [Rd.val, Option.some.injEq] at hx
            subst hx
            have hO := h.owns k j
            rw [hown] at hO
            have hO' : OwT w G.S deep' m' t' xs (G.ov k j) (fpOf G k j) := hO
            rw [← hc.2.1] at hO'
            have h1 : OwT w S0 deep' m' t' xs v (fpOf G k j) := OwT.move hO' (fun b o hs => ⟨hS b o (.inl hs), rfl⟩) (fun b hb => ⟨hb, rfl⟩) fun b len cap hv hb o hs => .inl (hT k j rfl ⟨_, _, _, _, rfl⟩ b o hs hb)
            rcases h1 with he | ⟨b, cap, arr, E, vs, fps, e1, e2, e3, e4, e5, e6, e7, e8, e9, e10, e11⟩
            · exact .inl he
            · refine .inr ⟨b, cap, arr, E, vs, fps, e1, e2, e3, e4, e5, ⟨k, j, rfl, e6, _, _, _, _, hown⟩, e7, fun i x j' d hx hd => (e8 i x j' d hx hd).sub (fun _ hh => hh) hfl.1, fun i j' c hcc => ⟨⟨k, j, rfl, (e9 i j' c hcc).1, _, _, _, _, hown⟩, (e9 i j' c hcc).2⟩, e10, fun o hs => ?_⟩
              obtain ⟨q1, q2⟩ := e11 o hs
              refine ⟨?_, q2⟩
              cases hm : m with
              | false => rfl
              | true => rw [hfl.2 hm] at q1; cases q1
          · cases hx
        · cases hx
      · cases hx
    · cases hx

theorem Inv.setTmp (h : Inv w0 G S a w) (i : Nat) {av : AV} (hv : AVRep G w av (a.tmps.getD i undef)) : Inv w0 G (S.setT i av) a w := by
  have h1 := h.setT i hv
  have e : a.put (some i) (a.tmps.getD i undef) = a := by
    simp only [Act.put]
    cases a with
    | mk tmps defers =>
      congr 1
      show tmps.setIfInBounds i (tmps.getD i undef) = tmps
      by_cases hl : i < tmps.size
      · have hl' : i < tmps.toList.length := by simpa using hl
        have e1 : tmps.getD i undef = tmps.toList[i] := by simp [hl]
        rw [← Array.toList_inj, Array.toList_setIfInBounds, e1, List.set_getElem_self]
      · rw [Array.setIfInBounds_eq_of_size_le (Nat.le_of_not_lt hl)]
  rw [e] at h1
  exact h1
theorem Inv.setCellC (h : Inv w0 G S a w) (b off : Nat) {cs : List C} (hb : S.getB b = some cs) {c : C} {v : Value} (hv : w.cell? ⟨G.bk b, off, none⟩ = some v) (hc : CRep G w c v) :
    Inv w0 G (S.setB b (some (cs.set off c))) a w := by
  refine ⟨h.below, h.nodef, h.tsz, by simp [St.setB, h.bsz], by simp [St.setB, h.osz], h.tmps, h.olt, h.sok, ?_, h.owns, h.lk, ?_, h.sfr⟩
  · intro i cs' hcs'
    rw [getB_setB] at hcs'
    split at hcs'
    · rename_i hi
      obtain ⟨rfl, _⟩ := hi
      cases hcs'
      obtain ⟨ho, vs, E, hh, hr⟩ := h.box b cs hb
      refine ⟨ho, vs, E, hh, ?_⟩
      obtain ⟨hl, hg⟩ := hr.get
      refine CsRep.mk (by simpa using hl) fun i c' v' hc' hv' => ?_
      rw [List.getElem?_set] at hc'
      split at hc'
      · rename_i hi
        subst hi
        split at hc'
        · cases hc'
          rw [cell_of_row _ _ _ _ _ _ hh] at hv
          simp at hv
          rw [hv'] at hv
          cases hv
          exact hc
        · cases hc'
      · exact hg i c' v' hc' hv'
    · exact h.box i cs' hcs'
  · intro i hi
    rw [getB_setB]
    split
    · simp
    · exact h.lb i hi

/-- One carried cell is put back. -/
theorem Inv.putC (h : Inv w0 G S a w) {it : It} {c : C} {v : Value} (hv : cellV G a w it v) (hc : CRep G w c v) (hb : ∀ b off s, it = .b b off s → ∃ cs, S.getB b = some cs) : Inv w0 G (S.putC it c) a w := by
  cases it with
  | t i s => exact h.setTmp i (by rw [show a.tmps.getD i undef = v from hv]; exact hc)
  | b b off s =>
    obtain ⟨cs, hcs⟩ := hb b off s rfl
    simp only [St.putC, hcs]
    exact h.setCellC b off hcs hv hc

theorem getB_putC (S : St) (it : It) (c : C) (b : Nat) (h : ∃ cs, S.getB b = some cs) : ∃ cs, (S.putC it c).getB b = some cs := by
  obtain ⟨cs, hcs⟩ := h
  cases it with
  | t i s => exact ⟨cs, hcs⟩
  | b b' off s =>
    simp only [St.putC]
    split
    · rw [getB_setB]
      split
      · exact ⟨_, rfl⟩
      · exact ⟨cs, hcs⟩
    · exact ⟨cs, hcs⟩
theorem getO_putC (S : St) (it : It) (c : C) (k : Nat) : (S.putC it c).getO k = S.getO k := by
  cases it with
  | t i s => rfl
  | b b off s => simp only [St.putC]; split <;> rfl
theorem tmps_putC (S : St) (it : It) (c : C) : (S.putC it c).tmps.length = S.tmps.length := by
  cases it with
  | t i s => simp [St.putC, St.setT]
  | b b off s => simp only [St.putC]; split <;> rfl

end loops
end Go.Abs
