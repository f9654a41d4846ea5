/- Slices of slices; calls. -/
import Derived.Test.YtiedhibpaooldaaSound13
namespace Go.Abs
open Go.RowKit

theorem cutL_some {α : Type} {xs r : List α} {lo hi : Option Int} (h : eff.cutL xs lo hi = some r) :
    0 ≤ lo.getD 0 ∧ lo.getD 0 ≤ hi.getD xs.length ∧ hi.getD xs.length ≤ xs.length ∧ r = (xs.take (hi.getD xs.length).toNat).drop (lo.getD 0).toNat := by
  simp only [eff.cutL] at h
  split at h
  · rename_i hc; exact ⟨hc.1, hc.2.1, hc.2.2, (Option.some.inj h).symm⟩
  · cases h

section ops
variable {P : Program} {w0 : Bs} {G : Gh} {S : St} {a : Act} {w : World} {o : Oper} {K : Act → World → Prop} {Q : Exit → Act → World → Prop}

theorem run_sliceBounds (isSlice : Bool) (len cap : Nat) (lo hi : Option Value) (l h : Int) (hlo : lo = none ∧ l = 0 ∨ ∃ k, lo = some (.int k l)) (hhi : hi = none ∧ h = len ∨ ∃ k, hi = some (.int k h))
    (h0 : 0 ≤ l) (h1 : l ≤ h) (h2 : h ≤ cap) : (Instr.sliceBounds isSlice len cap lo hi none).run P w = .ok (l.toNat, h.toNat, cap) w := by
  rcases hlo with ⟨rfl, rfl⟩ | ⟨k, rfl⟩ <;> rcases hhi with ⟨rfl, rfl⟩ | ⟨k', rfl⟩
  · simp [Instr.sliceBounds]
  · simp [Instr.sliceBounds, Instr.sliceBound, asIntOf, h1, h2]
  · simp [Instr.sliceBounds, Instr.sliceBound, asIntOf, h0, h1]
  · have h3 : (0 : Int) ≤ h := by omega
    have h5 : max h 0 = h := by omega
    have h6 : ¬ h < l := by omega
    simp [Instr.sliceBounds, Instr.sliceBound, asIntOf, h0, h2, h3, h5, h6]

theorem bnd_rep (h : Inv w0 G S a w) {x : Option Operand} {b : Option Int} (hv : (eff.bnd x).val S = some b) (d : Int) : (x.map a.eval = none ∧ b.getD d = d) ∨ ∃ k, x.map a.eval = some (.int k (b.getD d)) := by
  cases x with
  | none =>
    simp only [eff.bnd, Rd.val, Option.some.injEq] at hv
    subst hv
    exact .inl ⟨rfl, rfl⟩
  | some x =>
    simp only [eff.bnd, Rd.val_bind, Option.bind_eq_some_iff, Rd.val, Option.some.injEq] at hv
    obtain ⟨av, h1, n, h2, rfl⟩ := hv
    obtain ⟨k, hk⟩ := avInt_rep h2 (evalO_rep h h1)
    exact .inr ⟨k, by simp [hk]⟩

/-- From now on the list's row is not stored into; what it reads by is held stable. -/
theorem Inv.toNoMut (h : Inv w0 G S a w) (k j : Nat) : ∃ G', Inv w0 G' (S.put (.nomut k j)) a w ∧ More G G' (AK G S [(k, j)]) := by
  have hO := h.owns k j
  -- the entry first
  have h1 : Inv w0 G (S.put (.nomut k j)) a w := by
    refine h.updO k j _ ?_
    cases hx : oget (S.getO k) j with
    | dead => trivial
    | ro t xs => rw [hx] at hO; exact hO
    | own t xs deep m =>
      rw [hx] at hO
      rcases hO with he | ⟨b, cap, arr, E, vs, fps, e1, e2, e3, e4, e5, e6, e7, e8, e9, e10, hs⟩
      · exact .inl he
      · exact .inr ⟨b, cap, arr, E, vs, fps, e1, e2, e3, e4, e5, e6, e7, e8, e9, e10, fun oo ho => ⟨rfl, (hs oo ho).2⟩⟩
  have hent : ∀ k' j' t xs deep m, oget ((S.put (.nomut k j)).getO k') j' = .own t xs deep m → ∃ m', oget (S.getO k') j' = .own t xs deep m' ∧ ((k', j') = (k, j) → m = false) := by
    intro k' j' t xs deep m hx
    change oget ((S.setO k ((S.getO k).set j (oget (S.getO k) j).noMut)).getO k') j' = _ at hx
    rw [getO_setO] at hx
    split at hx
    · rename_i hk
      obtain ⟨rfl, hkl⟩ := hk
      rw [oget_set] at hx
      split at hx
      · rename_i hj
        obtain ⟨rfl, _⟩ := hj
        cases hoo : oget (S.getO k) j with
        | dead => rw [hoo] at hx; cases hx
        | ro t' xs' => rw [hoo] at hx; cases hx
        | own t' xs' deep' m' =>
          rw [hoo] at hx
          simp only [O.noMut, O.own.injEq] at hx
          obtain ⟨rfl, h2, rfl, rfl⟩ := hx
          cases h2
          exact ⟨m', rfl, fun _ => rfl⟩
      · rename_i hj
        refine ⟨m, hx, fun e => ?_⟩
        cases e
        have : ¬ j < (S.getO k).length := fun hl => hj ⟨rfl, hl⟩
        have : oget (S.getO k) j = .dead := by
          simp only [oget, List.getD_eq_getElem?_getD]
          rw [List.getElem?_eq_none (by omega)]; rfl
        rw [this] at hx; cases hx
    · rename_i hk
      refine ⟨m, hx, fun e => ?_⟩
      cases e
      have : ¬ k < S.owns.length := fun hl => hk ⟨rfl, hl⟩
      have hg0 : S.getO k = [] := by
        simp only [St.getO, List.getD_eq_getElem?_getD]
        rw [List.getElem?_eq_none (by omega)]; rfl
      rw [hg0] at hx; cases hx
  obtain ⟨h2, _⟩ := h1.addS (AK G S [(k, j)]) (by
    rintro b oo ⟨k', j', t, xs, deep, m, hmem, hown, how, hlt⟩
    simp only [List.mem_singleton, Prod.mk.injEq] at hmem
    obtain ⟨rfl, rfl⟩ := hmem
    refine ⟨(h.olt _ _ how).2, fun i hb => (by rw [how] at hb; cases hb), fun k2 j2 t2 xs2 d2 m2 hx len cap hov how2 => ?_⟩
    rw [how] at how2
    cases how2
    obtain ⟨m', h3, h4⟩ := hent _ _ _ _ _ _ hx
    rw [hown] at h3
    cases h3
    exact ⟨h4 rfl, hlt len cap hov⟩) (by
    rintro b oo ⟨k', j', t, xs, deep, m, hmem, hown, how, hlt⟩
    exact (h.olt _ _ how).1)
  exact ⟨_, h2, rfl, rfl, rfl, rfl, rfl, fun b oo => Iff.rfl⟩

theorem slice_rep {S0 : Nat → Nat → Prop} {t : Ty} {xs r : List t.den} {v : Value} (hrep : Rep w S0 (.list t xs) v) {T e : TypeId} {i : TypeInfo} (hu : P.underlying T = some (.slice e)) (hi : P.info? e = some i) (hsz : i.size = t.size)
    {lo hi' : Option Value} {blo bhi : Option Int} (hlo : (lo = none ∧ blo.getD 0 = 0) ∨ ∃ k, lo = some (.int k (blo.getD 0))) (hhi : (hi' = none ∧ bhi.getD xs.length = xs.length) ∨ ∃ k, hi' = some (.int k (bhi.getD xs.length)))
    (hr : eff.cutL xs blo bhi = some r) : ∃ v', (Instr.sliceAt T v lo hi' none).run P w = .ok v' w ∧ Rep w S0 (.list t r) v' := by
  obtain ⟨h0, h1, h2, rfl⟩ := cutL_some hr
  generalize hl : blo.getD 0 = l at *
  generalize hh : bhi.getD (xs.length : Int) = hv at *
  have hrl : ((xs.take hv.toNat).drop l.toNat).length = hv.toNat - l.toNat := by simp; omega
  generalize hdd : D.list t xs = dd at hrep
  cases hrep with
  | int => cases hdd
  | bool => cases hdd
  | str => cases hdd
  | nil t' =>
    cases hdd
    have hv0 : hv = 0 := by simp at h2; omega
    subst hv0
    have hl0 : l = 0 := by omega
    subst hl0
    have hsb := run_sliceBounds (P := P) (w := w) true 0 0 lo hi' 0 0 (hlo.imp id id) (by simpa using hhi) (by omega) (by omega) (by omega)
    refine ⟨.slice none 0 0, ?_, ?_⟩
    · simp only [Int.toNat_zero] at hsb
      simp [Instr.sliceAt, Instr.slice, run_underlying hu, hsb, sizeOf, typeInfo, hi]
    · simp; exact .nil _
  | emp t' ad cap =>
    cases hdd
    have hv0 : hv = 0 := by simp at h2; omega
    subst hv0
    have hl0 : l = 0 := by omega
    subst hl0
    have hsb := run_sliceBounds (P := P) (w := w) true 0 cap lo hi' 0 0 (hlo.imp id id) (by simpa using hhi) (by omega) (by omega) (by omega)
    have he : ad.add 0 = ad := rfl
    refine ⟨.slice (some ad) 0 cap, ?_, ?_⟩
    · simp only [Int.toNat_zero] at hsb
      simp [Instr.sliceAt, Instr.slice, run_underlying hu, hsb, sizeOf, typeInfo, hi, he]
    · simp; exact .emp _ _ _
  | list t' xs' b off cap vs hcap hc hrr =>
    cases hdd
    have hsb := run_sliceBounds (P := P) (w := w) true xs.length cap lo hi' l hv hlo hhi h0 h1 (by omega)
    by_cases hcl : cap = l.toNat
    · refine ⟨.slice (some ⟨b, off, none⟩) (hv.toNat - l.toNat) (cap - l.toNat), ?_, ?_⟩
      · simp [Instr.sliceAt, Instr.slice, run_underlying hu, hsb, sizeOf, typeInfo, hi, if_pos hcl]
      · have he : (xs.take hv.toNat).drop l.toNat = [] := List.eq_nil_of_length_eq_zero (by omega)
        have hz : hv.toNat - l.toNat = 0 := by omega
        rw [he, hz]
        exact .list t [] b off _ (fun _ _ => undef) (by simp) (fun i x j d hx => by simp at hx) (fun i x j d hx => by simp at hx)
    · refine ⟨.slice (some ⟨b, off + l.toNat * t.size, none⟩) (hv.toNat - l.toNat) (cap - l.toNat), ?_, ?_⟩
      · simp [Instr.sliceAt, Instr.slice, run_underlying hu, hsb, sizeOf, typeInfo, hi, hcl, hsz, addr_add]
      · have hget : ∀ (i : Nat) (x : t.den), ((xs.take hv.toNat).drop l.toNat)[i]? = some x → xs[l.toNat + i]? = some x := by
          intro i x hx
          rw [List.getElem?_drop, List.getElem?_take] at hx
          split at hx
          · exact hx
          · cases hx
        rw [← hrl]
        refine .list t _ b _ _ (fun i j => vs (l.toNat + i) j) (by rw [hrl]; omega) (fun i x j d hx hd => ?_) (fun i x j d hx hd => hrr _ x j d (hget i x hx) hd)
        have := hc _ x j d (hget i x hx) hd
        rw [Nat.add_mul, Nat.add_assoc, ← Nat.add_assoc off] at this
        exact this

theorem op_slice (h : Inv w0 G S a w) {T : TypeId} {x : Operand} {lo hi mx : Option Operand} (ho : o.op = .slice T x lo hi mx) {E : Env} (hT : E.tt.ok P = true) {ws : List W} (hv : (eff E o).val S = some ws)
    (hK : ∀ a' w' G', Inv w0 G' (S.puts ws) a' w' → K a' w') : o.wp P a w K Q := by
  unfold eff at hv
  rw [ho] at hv
  simp only at hv
  split at hv
  · cases hv
  simp only [Rd.val_bind, Option.bind_eq_some_iff] at hv
  obtain ⟨av, h1, blo, h2, bhi, h3, hv⟩ := hv
  have hr := evalO_rep h h1
  have hlo := bnd_rep h h2
  have hhi := bnd_rep h h3
  have run : ∀ {v' : Value}, (Instr.sliceAt T (a.eval x) (lo.map a.eval) (hi.map a.eval) none).run P w = .ok v' w → (execOp a.eval o).run P w = .ok (.value v') w := by
    intro v' hr'
    unfold execOp
    simp [ho, hr']
  split at hv
  · rename_i s
    split at hv
    case isFalse => cases hv
    rename_i hs
    have hu := TT.str_ok hT hs
    simp only [Rd.val, Option.bind_eq_some_iff, Option.some.injEq] at hv
    obtain ⟨r, h4, rfl⟩ := hv
    obtain ⟨c0, c1, c2, rfl⟩ := cutL_some h4
    have hlo := hlo 0
    have hhi := hhi (s.length : Int)
    generalize hl : blo.getD 0 = l at *
    generalize hh : bhi.getD (s.length : Int) = hv' at *
    generalize hxv : a.eval x = xv at *
    generalize hdd : D.str s = dd at hr
    cases hr with
    | int => cases hdd
    | bool => cases hdd
    | nil => cases hdd
    | emp => cases hdd
    | list => cases hdd
    | str v =>
      cases hdd
      rw [bytes_len] at c2 hhi
      have hsb := run_sliceBounds (P := P) (w := w) false v.size v.size (lo.map a.eval) (hi.map a.eval) l hv' hlo hhi c0 c1 c2
      refine wp_of_run (v := .string (v.extract l.toNat hv'.toNat)) (w' := w) (run ?_) (hK _ _ _ (h.dst (av := .v (.one (.d (.str _)))) ?_))
      · simp [Instr.sliceAt, Instr.slice, run_underlying hu, hsb]
      · have e : (v.data.toList.take hv'.toNat).drop l.toNat = (v.extract l.toNat hv'.toNat).data.toList := by
          simp [List.drop_take]
        rw [e]
        exact Rep.str _
  · rename_i t xs
    split at hv
    case isFalse => cases hv
    rename_i ht
    obtain ⟨e, inf, z, hu, hi', hsz, _⟩ := TT.elem_ok hT ht
    simp only [Rd.val, Option.bind_eq_some_iff, Option.some.injEq] at hv
    obtain ⟨r, h4, rfl⟩ := hv
    obtain ⟨v', h5, h6⟩ := slice_rep (P := P) hr hu hi' hsz (hlo 0) (hhi xs.length) h4
    exact wp_of_run (run h5) (hK _ _ _ (h.dst h6))
  · rename_i k j
    simp only [Rd.val] at hv
    split at hv
    · rename_i t xs deep m hown
      split at hv
      case isFalse => cases hv
      rename_i ht
      obtain ⟨e, inf, z, hu, hi', hsz, _⟩ := TT.elem_ok hT ht
      simp only [Rd.val, Option.bind_eq_some_iff, Option.some.injEq] at hv
      obtain ⟨r, h4, rfl⟩ := hv
      have hrep := h.own_rep hown [(k, j)] (by simp)
      rw [← hr.2.1] at hrep
      obtain ⟨v', h5, h6⟩ := slice_rep (P := P) hrep hu hi' hsz (hlo 0) (hhi xs.length) h4
      obtain ⟨G1, h7, m7⟩ := h.toNoMut k j
      have h8 := h7.dst (o := o) (av := .v (.one (.d (.list t r)))) (v := v') (h6.move fun b oo hs => ⟨(m7.s b oo).2 hs, rfl⟩)
      exact wp_of_run (run h5) (hK _ _ _ h8)
    · rename_i t xs hown
      split at hv
      case isFalse => cases hv
      rename_i ht
      obtain ⟨e, inf, z, hu, hi', hsz, _⟩ := TT.elem_ok hT ht
      simp only [Rd.val, Option.bind_eq_some_iff, Option.some.injEq] at hv
      obtain ⟨r, h4, rfl⟩ := hv
      have hrep := h.ro_rep hown
      rw [← hr.2.1] at hrep
      obtain ⟨v', h5, h6⟩ := slice_rep (P := P) hrep hu hi' hsz (hlo 0) (hhi xs.length) h4
      exact wp_of_run (run h5) (hK _ _ _ (h.dst h6))
    · cases hv
  · cases hv
end ops
end Go.Abs
