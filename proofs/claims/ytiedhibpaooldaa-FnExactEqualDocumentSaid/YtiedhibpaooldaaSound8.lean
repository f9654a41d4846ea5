/- Lists that are taken into a list; new lists. -/
import Derived.Test.YtiedhibpaooldaaSound7
namespace Go.Abs
open Go.RowKit

theorem fresh_val {d : Nat} {os : List O} {S : St} {ws : List W} (h : (fresh d os).val S = some ws) : S.getO d = [] ∧ ws = [.o d os] := by
  simp only [fresh, Rd.val] at h
  split at h
  · rename_i he; simp only [Rd.val, Option.some.injEq] at h; exact ⟨he, h.symm⟩
  · cases h
theorem puts_append (S : St) (a b : List W) : S.puts (a ++ b) = (S.puts a).puts b := by
  induction a generalizing S with
  | nil => rfl
  | cons x r ih => exact ih _
theorem nodupB_cons {q : Nat × Nat} {r : List (Nat × Nat)} (h : nodupB (q :: r) = true) : q ∉ r ∧ nodupB r = true := by
  simp only [nodupB, Bool.and_eq_true, Bool.not_eq_true', List.any_eq_false, Bool.and_eq_true, beq_iff_eq, not_and] at h
  refine ⟨fun hq => ?_, h.2⟩
  exact h.1 q hq rfl rfl

section ops
variable {P : Program} {w0 : Bs} {G : Gh} {S : St} {a : Act} {w : World}

/-- the ghosts of G with more held stable -/
structure More (G G' : Gh) (A : Nat → Nat → Prop) : Prop where
  ow : G'.ow = G.ow
  ov : G'.ov = G.ov
  bk : G'.bk = G.bk
  lk : G'.lk = G.lk
  lb : G'.lb = G.lb
  s : ∀ b o, G'.S b o ↔ (G.S b o ∨ A b o)
theorem More.mv {G' : Gh} {A : Nat → Nat → Prop} (h : More G G' A) (w : World) : Mv G G' w w :=
  ⟨fun b o hs => ⟨(h.s b o).2 (.inl hs), rfl⟩, fun k hk => ⟨by rw [h.lk]; exact hk, fun j => by rw [h.ov]⟩, fun i hi => ⟨by rw [h.lb]; exact hi, by rw [h.bk]⟩⟩

/-- A list is from now on only read. -/
theorem Inv.toRo (h : Inv w0 G S a w) (k j : Nat) : ∃ G', Inv w0 G' (S.put (.ro k j)) a w ∧ More G G' (AK G S [(k, j)]) := by
  let G' : Gh := { G with S := fun b o => G.S b o ∨ AK G S [(k, j)] b o }
  have hmore : More G G' (AK G S [(k, j)]) := ⟨rfl, rfl, rfl, rfl, rfl, fun b o => Iff.rfl⟩
  have hm := hmore.mv w
  have ho : ∀ b o, AK G S [(k, j)] b o → G.ow b = some (.own k j) := by
    rintro b o ⟨k', j', t, xs, deep, m, hmem, _, how, _⟩
    simp only [List.mem_singleton, Prod.mk.injEq] at hmem
    rw [hmem.1, hmem.2] at how
    exact how
  refine ⟨G', ⟨h.below, h.nodef, h.tsz, by simp [St.put, St.setO, h.bsz], by simp [St.put, St.setO, h.osz], fun i v hv => (h.tmps i v hv).move hm, h.olt, ?_, ?_, ?_, ?_, h.lb, fun b o hs hl => hs.elim (fun hs => h.sfr b o hs hl) fun hs => absurd (h.olt _ _ (ho b o hs)).1 (by omega)⟩, hmore⟩
  · intro b o hs
    rcases hs with hs | hs
    · exact h.sok b o hs
    · have := ho b o hs
      exact ⟨(h.olt _ _ this).2, fun i e => by rw [this] at e; cases e⟩
  · intro i cs hcs
    obtain ⟨how, vs, E, hh, hc⟩ := h.box i cs hcs
    exact ⟨how, vs, E, hh, hc.move hm⟩
  · intro k' j'
    show OwnOk G' w k' j' (oget ((S.setO k ((S.getO k).set j (oget (S.getO k) j).toRo)).getO k') j')
    rw [getO_setO]
    have keep : (k', j') ≠ (k, j) → OwnOk G' w k' j' (oget (S.getO k') j') := fun hne =>
      (h.owns k' j').same rfl hm.s fun t xs deep m hx => ⟨fun b hb => ⟨hb, rfl⟩, fun b len cap hv hb o hs => by
        rcases hs with hs | hs
        · exact .inl hs
        · have e1 := ho b o hs
          have e2 : G.ow b = some (.own k' j') := hb
          rw [e1] at e2
          cases e2
          exact absurd rfl hne⟩
    have turn : OwnOk G' w k j (oget (S.getO k) j).toRo := by
      have hO := h.owns k j
      cases hx : oget (S.getO k) j with
      | dead => trivial
      | ro t xs => rw [hx] at hO; exact Rep.move hO hm.s
      | own t xs deep m => exact h.own_rep hx [(k, j)] (by simp)
    by_cases hk : k = k' ∧ k < S.owns.length
    · rw [if_pos hk, oget_set]
      obtain ⟨rfl, hkl⟩ := hk
      by_cases hj : j = j' ∧ j < (S.getO k).length
      · rw [if_pos hj]; obtain ⟨rfl, _⟩ := hj; exact turn
      · rw [if_neg hj]
        by_cases hjj : j = j'
        · subst hjj
          have : oget (S.getO k) j = .dead := by
            simp only [oget, List.getD_eq_getElem?_getD]
            rw [List.getElem?_eq_none (by omega)]; rfl
          rw [this]; trivial
        · exact keep (by simp [Ne.symm hjj])
    · rw [if_neg hk]
      by_cases hkk : (k', j') = (k, j)
      · cases hkk
        have hg : S.getO k = [] := by
          have : ¬ k < S.owns.length := fun hl => hk ⟨rfl, hl⟩
          simp only [St.getO, List.getD_eq_getElem?_getD]
          rw [List.getElem?_eq_none (by omega)]; rfl
        rw [hg]; trivial
      · exact keep hkk
  · intro k' hk'
    show (S.setO k ((S.getO k).set j (oget (S.getO k) j).toRo)).getO k' ≠ []
    rw [getO_setO]
    split
    · rename_i hk
      intro e
      have : (S.getO k).length = 0 := by simpa using congrArg List.length e
      exact h.lk k' hk' (by rw [← hk.1]; exact List.eq_nil_of_length_eq_zero this)
    · exact h.lk k' hk'

theorem oget_put_ro (S : St) (k j k' j' : Nat) : oget ((S.put (.ro k j)).getO k') j' = if (k, j) = (k', j') then (oget (S.getO k') j').toRo else oget (S.getO k') j' := by
  show oget ((S.setO k ((S.getO k).set j (oget (S.getO k) j).toRo)).getO k') j' = _
  rw [getO_setO]
  by_cases hk : k = k' ∧ k < S.owns.length
  · rw [if_pos hk, oget_set]
    obtain ⟨rfl, _⟩ := hk
    by_cases hj : j = j'
    · subst hj
      simp only [true_and, if_true]
      split
      · rfl
      · have : oget (S.getO k) j = .dead := by
          simp only [oget, List.getD_eq_getElem?_getD]
          rw [List.getElem?_eq_none (by omega)]; rfl
        rw [this]; rfl
    · have : ¬ ((k, j) = (k, j')) := by simp [hj]
      rw [if_neg (fun e => hj e.1), if_neg this]
  · rw [if_neg hk]
    split
    · rename_i e
      cases e
      have hg : S.getO k = [] := by
        have : ¬ k < S.owns.length := fun hl => hk ⟨rfl, hl⟩
        simp only [St.getO, List.getD_eq_getElem?_getD]
        rw [List.getElem?_eq_none (by omega)]; rfl
      rw [hg]; rfl
    · rfl
theorem getO_put_ro_nil {S : St} {k j d : Nat} (h : S.getO d = []) : (S.put (.ro k j)).getO d = [] := by
  show (S.setO k ((S.getO k).set j (oget (S.getO k) j).toRo)).getO d = []
  rw [getO_setO]
  split
  · rename_i hk; rw [hk.1, h]; rfl
  · exact h

/-- Lists are from now on only read. -/
theorem Inv.toRos : ∀ (keys : List (Nat × Nat)) {G : Gh} {S : St}, Inv w0 G S a w → nodupB keys = true →
    ∃ G', Inv w0 G' (S.puts (keys.map fun q => .ro q.1 q.2)) a w ∧ More G G' (AK G S keys) ∧
      (∀ k j, oget ((S.puts (keys.map fun q => .ro q.1 q.2)).getO k) j = if (k, j) ∈ keys then (oget (S.getO k) j).toRo else oget (S.getO k) j) ∧
      (∀ d, S.getO d = [] → (S.puts (keys.map fun q => .ro q.1 q.2)).getO d = [])
  | [], G, S, h, _ => ⟨G, h, ⟨rfl, rfl, rfl, rfl, rfl, fun b o => ⟨.inl, fun hh => hh.elim id fun ⟨_, _, _, _, _, _, hm, _⟩ => by cases hm⟩⟩, fun k j => by simp [St.puts], fun d hd => hd⟩
  | (k, j) :: r, G, S, h, hn => by
    obtain ⟨hq, hn'⟩ := nodupB_cons hn
    obtain ⟨G1, h1, m1⟩ := h.toRo k j
    obtain ⟨G2, h2, m2, e2, n2⟩ := Inv.toRos r h1 hn'
    have hput : ∀ k' j', (k', j') ∈ r → oget ((S.put (.ro k j)).getO k') j' = oget (S.getO k') j' := fun k' j' hm => by
      rw [oget_put_ro, if_neg fun e : (k, j) = (k', j') => hq (e ▸ hm)]
    refine ⟨G2, h2, ⟨m2.ow.trans m1.ow, m2.ov.trans m1.ov, m2.bk.trans m1.bk, m2.lk.trans m1.lk, m2.lb.trans m1.lb, fun b o => ?_⟩, fun k' j' => ?_, fun d hd => n2 d (getO_put_ro_nil hd)⟩
    · rw [m2.s, m1.s]
      constructor
      · rintro ((hs | ⟨k', j', t, xs, deep, m, hm, hx⟩) | ⟨k', j', t, xs, deep, m, hm, hx, how, hov⟩)
        · exact .inl hs
        · simp only [List.mem_singleton] at hm
          exact .inr ⟨k', j', t, xs, deep, m, by rw [hm]; exact List.mem_cons_self, hx⟩
        · rw [hput k' j' hm] at hx
          exact .inr ⟨k', j', t, xs, deep, m, List.mem_cons_of_mem _ hm, hx, by rw [← m1.ow]; exact how, by rw [← m1.ov]; exact hov⟩
      · rintro (hs | ⟨k', j', t, xs, deep, m, hm, hx, how, hov⟩)
        · exact .inl (.inl hs)
        · rcases List.mem_cons.1 hm with hm | hm
          · exact .inl (.inr ⟨k', j', t, xs, deep, m, by simp [hm], hx, how, hov⟩)
          · exact .inr ⟨k', j', t, xs, deep, m, hm, by rw [hput k' j' hm]; exact hx, by rw [m1.ow]; exact how, by rw [m1.ov]; exact hov⟩
    · show oget (((S.put (.ro k j)).puts (r.map fun q => .ro q.1 q.2)).getO k') j' = _
      rw [e2, oget_put_ro]
      by_cases hm : (k', j') ∈ r
      · have : ¬ ((k, j) = (k', j')) := fun e => hq (e ▸ hm)
        rw [if_pos hm, if_neg this, if_pos (List.mem_cons_of_mem _ hm)]
      · rw [if_neg hm]
        by_cases he : (k, j) = (k', j')
        · rw [if_pos he, if_pos (by rw [he]; exact List.mem_cons_self)]
        · rw [if_neg he, if_neg fun e => (List.mem_cons.1 e).elim (fun e => he e.symm) hm]

/-- the rows of the lists under a key that is owned -/
def rowsOf (G : Gh) (S : St) (c : C) (b : Nat) : Prop := ∃ k j, c = .own k j ∧ G.ow b = some (.own k j) ∧ ∃ t xs deep m, oget (S.getO k) j = .own t xs deep m

theorem csDeep_get : ∀ {cs : List C} {dp : Bool}, (csDeep cs).val S = some dp → ∀ (i : Nat) (c : C), cs[i]? = some c → ∃ b, (cDeep c).val S = some b ∧ (dp = true → b = true)
  | [], dp, _, i, c, hc => by simp at hc
  | c0 :: cs, dp, hv, i, c, hc => by
    simp only [csDeep, Rd.val_bind, Option.bind_eq_some_iff, Rd.val, Option.some.injEq] at hv
    obtain ⟨b, h1, b', h2, rfl⟩ := hv
    cases i with
    | zero => simp at hc; subst hc; exact ⟨b, h1, fun e => (Bool.and_eq_true _ _ ▸ e).1⟩
    | succ i =>
      obtain ⟨b'', h3, h4⟩ := csDeep_get h2 i c (by simpa using hc)
      exact ⟨b'', h3, fun e => h4 (Bool.and_eq_true _ _ ▸ e).2⟩

/-- A cell that is taken into a list. -/
theorem cell_in (h : Inv w0 G S a w) {ty : Option Ty} {c : C} {d : D} {v : Value} {b dp : Bool} (hd : (cD ty c).val S = some d) (hc : CRep G w c v) (hb : (cDeep c).val S = some b) (hdp : dp = true → b = true)
    {S' : Nat → Nat → Prop} {keys : List (Nat × Nat)} (hS : ∀ x o, (G.S x o ∨ AK G S keys x o) → S' x o) (hk : ∀ k j, c = .own k j → (k, j) ∈ keys) : Ow w S' dp d v (rowsOf G S c) := by
  cases dp with
  | false => exact .ro d v _ rfl ((cD_rep h hd hc keys hk).move fun x o hs => ⟨hS x o hs, rfl⟩)
  | true =>
    have hbt := hdp rfl
    subst hbt
    cases c with
    | undef => cases hd
    | d x =>
      simp only [cD, Rd.val, Option.some.injEq] at hd
      subst hd
      cases x with
      | list t xs => simp [cDeep, Rd.val] at hb
      | int k n => cases hc; exact .int k n _
      | bool p => cases hc; exact .bool p _
      | str s => cases hc; exact .str _ _
    | nil =>
      simp only [cD] at hd
      split at hd
      · simp only [Rd.val, Option.some.injEq] at hd
        subst hd
        rw [show v = _ from hc]
        exact .nil _ _
      · cases hd
    | own k j =>
      simp only [cD, Rd.val] at hd
      simp only [cDeep, Rd.val] at hb
      rw [hc.2.1]
      have hO := h.owns k j
      split at hd
      · rename_i t xs deep m ho
        rw [ho] at hb hO
        simp only [Rd.val, Option.some.injEq] at hd hb
        subst hd; subst hb
        have := OwT.ow hO
        refine (this.move (fun x o hs => ⟨hS x o (.inl hs), rfl⟩) fun _ _ => rfl).sub (fun x hx => ⟨k, j, rfl, hx, t, xs, true, m, ho⟩) fun e => e
      · rename_i t xs ho
        rw [ho] at hb
        simp [Rd.val] at hb
      · cases hd
    | ptr b off => cases hd
end ops
end Go.Abs
