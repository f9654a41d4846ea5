/- Stores. -/
import Derived.Test.YtiedhibpaooldaaSound12
namespace Go.Abs
open Go.RowKit

section ops
variable {P : Program} {w0 : Bs} {G : Gh} {S : St} {a : Act} {w : World} {o : Oper} {K : Act → World → Prop} {Q : Exit → Act → World → Prop}

theorem run_storeVar {T : TypeId} {i : TypeInfo} (hi : P.info? T = some i) {g off : Nat} {cur : Array Value} {E : TypeId} (hg : w.heap[g]? = some (.cells cur E (0, 0))) {v : Value} {vs : List Value} (hv : v.cells = vs.toArray) (hn : vs.length = i.size)
    (hl : off + vs.length ≤ cur.size) (h1 : ∀ u ∈ vs, u.oneCell' = true) :
    (storeVar T ⟨g, off, none⟩ v).run P w = .ok () (w.setRow g (setSeg cur.toList off vs).toArray) := by
  have := run_storeCells_at P g off E vs 0 cur w hg (by simpa using hl) h1
  simp only [Nat.add_zero] at this
  have e : (storeVar T ⟨g, off, none⟩ v).run P w = (storeCells ⟨g, off, none⟩ vs).run P w := by simp [storeVar, sizeOf, typeInfo, hi, hv, hn]
  rw [e]
  exact this

theorem op_store_run {t : TypeId} {p x : Operand} (ho : o.op = .store t p x) {ad : Addr} (hp : a.eval p = .pointer (some ad)) {w' : World} (hr : (storeVar t ad (a.eval x)).run P w = .ok () w') :
    (execOp a.eval o).run P w = .ok .skip w' := by
  unfold execOp
  simp [ho, hp, Instr.storeAt, Instr.sureAddr, hr]

theorem setO_setO (S : St) (k : Nat) (l l' : List O) : (S.setO k l).setO k l' = S.setO k l' := by simp [St.setO]

theorem cDs_len : ∀ {tys : List (Option Ty)} {cs : List C} {ds : List D}, (cDs tys cs).val S = some ds → tys.length = cs.length → ds.length = cs.length ∧ ∀ (j : Nat) (d : D), ds[j]? = some d → ∃ c ty, cs[j]? = some c ∧ (cD ty c).val S = some d
  | [], [], ds, h, _ => by
    simp only [cDs, Rd.val, Option.some.injEq] at h; subst h
    exact ⟨rfl, fun j d hd => by simp at hd⟩
  | ty :: tys, c :: cs, ds, h, hl => by
    simp only [cDs, Rd.val_bind, Option.bind_eq_some_iff, Rd.val, Option.some.injEq] at h
    obtain ⟨d0, e1, ds0, e2, rfl⟩ := h
    obtain ⟨l1, g1⟩ := cDs_len e2 (by simpa using hl)
    refine ⟨by simp [l1], fun j d hd => ?_⟩
    cases j with
    | zero => simp at hd; subst hd; exact ⟨c, ty, rfl, e1⟩
    | succ j => exact g1 j d (by simpa using hd)

theorem op_store (h : Inv w0 G S a w) {t : TypeId} {p x : Operand} (ho : o.op = .store t p x) {E : Env} (hT : E.tt.ok P = true) {ws : List W} (hv : (eff E o).val S = some ws)
    (hK : ∀ a' w' G', Inv w0 G' (S.puts ws) a' w' → K a' w') : o.wp P a w K Q := by
  unfold eff at hv
  rw [ho] at hv
  simp only at hv
  split at hv
  · cases hv
  rename_i agg n hs
  obtain ⟨d, i, hu, hi, hsz, hd⟩ := TT.shape_ok hT hs
  simp only [Rd.val_bind, Option.bind_eq_some_iff] at hv
  obtain ⟨av, h1, v, h2, hv⟩ := hv
  have hr := avV_rep h2 (evalO_rep h h1)
  obtain ⟨us, hus, hcs⟩ := hr.vcells
  split at hv
  case isFalse => cases hv
  rename_i hn
  have hul : us.length = n := by rw [← hcs.length]; exact hn
  simp only [Rd.val_bind, Option.bind_eq_some_iff] at hv
  obtain ⟨ap, h3, hv⟩ := hv
  have hrp := evalO_rep h h3
  split at hv
  · rename_i b off
    simp only [Rd.val] at hv
    split at hv
    · rename_i cs hcsb
      split at hv
      · rename_i hle
        simp only [Rd.val, Option.some.injEq] at hv
        subst hv
        obtain ⟨_, vs, e, hh, hc⟩ := h.box b cs hcsb
        have hvl := hc.length
        refine wp_of_skip (op_store_run ho hrp.2 (run_storeVar hi hh hus (by omega) (by simp; omega) hcs.one)) (hK _ _ G ?_)
        have h' := h.setBox b hcsb (hc.setSeg hcs off)
        exact h'.dst undef_rep
      · cases hv
    · cases hv
  · rename_i k j ii sz off
    simp only [Rd.val] at hv
    split at hv
    case h_2 => cases hv
    rename_i ty xs deep hown
    simp only [Rd.val, Option.bind_eq_some_iff] at hv
    obtain ⟨x0, hx0, hv⟩ := hv
    split at hv
    case isFalse => cases hv
    rename_i hoff
    simp only [Rd.val_bind, Option.bind_eq_some_iff] at hv
    obtain ⟨ds, h4, dp, h5, hv⟩ := hv
    simp only [Rd.val, Option.bind_eq_some_iff] at hv
    obtain ⟨y, h6, hv⟩ := hv
    split at hv
    case isFalse => cases hv
    rename_i hnd
    simp only [Rd.val, Option.some.injEq] at hv
    subst hv
    obtain ⟨hlk, b, len, cap, hov, hpv⟩ := hrp
    obtain ⟨hkn, hnk⟩ := nodupB_cons hnd
    have hO := h.owns k j
    rw [hown] at hO
    rcases hO with ⟨he, _⟩ | ⟨b', cap', arr, e, vs, fps, hv', hb, hcap, hmax, hasz, hfb, hc, hrr, hf, hdis, hsS⟩
    · rw [hov] at he; cases he
    rw [hov] at hv'
    injection hv' with e1 e2 e3
    injection e1 with e1
    injection e1 with e1 _ _
    subst e1
    have hii : ii < xs.length := (List.getElem?_eq_some_iff.1 hx0).1
    obtain ⟨hsz2, hon⟩ := hoff
    have htl : (seg ty.tys off n).length = v.cells.length := by simp [Abs.seg, tys_length]; omega
    obtain ⟨hdl, hdg⟩ := cDs_len h4 htl
    -- the lists that are taken in
    obtain ⟨G1, h7, m7, e7, n7⟩ := Inv.toRos (ownKeys v.cells) h hnk
    have hS2 : ∀ k' j', oget ((S.puts ((ownKeys v.cells).map fun q => W.ro q.1 q.2)).getO k') j' = if (k', j') ∈ ownKeys v.cells then (oget (S.getO k') j').toRo else oget (S.getO k') j' := e7
    have h8 := h7.updO k j .dead trivial
    generalize hS1 : S.puts ((ownKeys v.cells).map fun q => W.ro q.1 q.2) = S1 at *
    have hdead : ∀ k' j' t' xs' d' m', oget ((S1.setO k ((S1.getO k).set j .dead)).getO k') j' = .own t' xs' d' m' → (k', j') ≠ (k, j) ∧ (k', j') ∉ ownKeys v.cells := by
      intro k' j' t' xs' d' m' hx
      rw [getO_setO] at hx
      split at hx
      · rename_i hkk
        obtain ⟨rfl, hkl⟩ := hkk
        rw [oget_set] at hx
        split at hx
        · cases hx
        · rename_i hjj
          refine ⟨fun e => ?_, fun hm => ?_⟩
          · cases e
            have : ¬ j < (S1.getO k).length := fun hl => hjj ⟨rfl, hl⟩
            have : oget (S1.getO k) j = .dead := by
              simp only [oget, List.getD_eq_getElem?_getD]
              rw [List.getElem?_eq_none (by omega)]; rfl
            rw [this] at hx; cases hx
          · rw [hS2, if_pos hm] at hx
            cases hoo : oget (S.getO k) j' <;> rw [hoo] at hx <;> simp [O.toRo] at hx
      · rename_i hkk
        refine ⟨fun e => ?_, fun hm => ?_⟩
        · cases e
          have : ¬ k < S1.owns.length := fun hl => hkk ⟨rfl, hl⟩
          have hg0 : S1.getO k = [] := by
            simp only [St.getO, List.getD_eq_getElem?_getD]
            rw [List.getElem?_eq_none (by omega)]; rfl
          rw [hg0] at hx; cases hx
        · rw [hS2, if_pos hm] at hx
          cases hoo : oget (S.getO k') j' <;> rw [hoo] at hx <;> simp [O.toRo] at hx
    let arr' : Array Value := (setSeg arr.toList (ii * sz + off) us).toArray
    have hidx : ii * sz + off + us.length ≤ arr.toList.length := by
      have e1 : arr.toList.length = arr.size := Array.length_toList
      rw [e1, hasz, ← hsz2]
      have : (ii + 1) * ty.size ≤ cap' * ty.size := Nat.mul_le_mul_right _ (by omega)
      rw [Nat.succ_mul] at this
      omega
    have hsr := setRow_heap w b arr arr' e (0, 0) hb
    have hoth : ∀ c, c ≠ b → (w.setRow b arr').heap[c]? = w.heap[c]? := fun c hc => setRow_other w b c _ hc
    have hbo : G1.ow b = some (.own k j) := by rw [m7.ow]; exact hfb
    have hSb : ∀ oo, ¬ G1.S b oo := by
      intro oo hs
      rcases (m7.s b oo).1 hs with hs | ⟨k', j', t2, xs2, d2, m2, hmem, _, how, _⟩
      · exact absurd (hsS oo hs).1 (by simp)
      · rw [show G.ow b = some (.own k j) from hfb] at how
        cases how
        exact hkn hmem
    have h9 := h8.setFree b (w' := w.setRow b arr') (h7.olt _ _ hbo).1 (fun i hb' => by rw [hbo] at hb'; cases hb') (fun k' j' t' xs' d' m' hb' hx => by
        rw [hbo] at hb'; cases hb'
        exact (hdead k j t' xs' d' m' hx).1 rfl) rfl rfl rfl (by simp) (fun c _ hc => hoth c hc) (fun oo hs => absurd hs (hSb oo))
    classical
    have h10 := h9.reown (fun c => ∃ (q : Nat) (cc : C), v.cells[q]? = some cc ∧ rowsOf G S cc c) k j (fun c hc => by
      obtain ⟨q, cc, hq, k', j', rfl, how, t2, xs2, d2, m2, hown2⟩ := hc
      have hlt := h.olt _ _ how
      refine ⟨hlt.1, by simpa using hlt.2, fun i hb' => ?_, fun k'' j'' t' xs' d' m' hb' _ hx => ?_⟩
      · rw [m7.ow, how] at hb'; cases hb'
      · rw [m7.ow, how] at hb'
        cases hb'
        exact (hdead _ _ t' xs' d' m' hx).2 (ownKeys_mem (List.mem_of_getElem? hq)))
    -- the entry
    have hrows_ne : ∀ (q : Nat) (cc : C) (c : Nat), v.cells[q]? = some cc → rowsOf G S cc c → G.ow c ≠ some (.own k j) := by
      rintro q cc c hq ⟨k', j', rfl, how, _⟩ hcj
      rw [how] at hcj
      cases hcj
      exact hkn (ownKeys_mem (List.mem_of_getElem? hq))
    have hnew : OwnOk { G1 with ow := fun c => if ∃ (q : Nat) (cc : C), v.cells[q]? = some cc ∧ rowsOf G S cc c then some (.own k j) else G1.ow c } (w.setRow b arr') k j (.own ty (xs.set ii y) (deep && dp) true) := by
      refine .inr ⟨b, cap', arr', e, fun i' j' => if i' = ii ∧ off ≤ j' ∧ j' < off + n then us.getD (j' - off) undef else vs i' j',
        fun i' j' c => if i' = ii ∧ off ≤ j' ∧ j' < off + n then ∃ cc, v.cells[j' - off]? = some cc ∧ rowsOf G S cc c else fps i' j' c, ?_, hsr, by simpa using hcap, hmax, ?_, ?_, ?_, ?_, ?_, ?_, ?_⟩
      · rw [List.length_set]
        show G1.ov k j = _
        rw [m7.ov, hov, e2, e3]
      · show (setSeg arr.toList (ii * sz + off) us).length = _
        rw [setSeg_length _ _ _ hidx]
        have e1 : arr.toList.length = arr.size := Array.length_toList
        rw [e1, hasz]
      · show (if _ then some (Owner.own k j) else G1.ow b) = _
        split
        · rfl
        · exact hbo
      · intro i' x' j' d' hx' hd'
        have hj' : j' < ty.size := by
          have := (List.getElem?_eq_some_iff.1 hd').1
          rwa [Ty.cells_length] at this
        have hi' : i' < xs.length := by have := (List.getElem?_eq_some_iff.1 hx').1; simpa using this
        rw [← Array.getElem?_toList]
        show (setSeg arr.toList (ii * sz + off) us)[i' * ty.size + j']? = some (if i' = ii ∧ off ≤ j' ∧ j' < off + n then us.getD (j' - off) undef else vs i' j')
        simp only [setSeg, List.getElem?_append, List.getElem?_take, List.getElem?_drop, List.length_append, List.length_take]
        have m1 : min (ii * sz + off) arr.toList.length = ii * sz + off := by omega
        rw [m1]
        by_cases hin : i' = ii ∧ off ≤ j' ∧ j' < off + n
        · obtain ⟨rfl, h11, h12⟩ := hin
          have a1 : i' * ty.size + j' < i' * sz + off + us.length := by rw [hsz2]; omega
          have a2 : ¬ i' * ty.size + j' < i' * sz + off := by rw [hsz2]; omega
          have a3 : i' * ty.size + j' - (i' * sz + off) = j' - off := by rw [hsz2]; omega
          have a4 : j' - off < us.length := by omega
          simp [a1, a2, a3, h11, h12, a4]
        · have hold : arr.toList[i' * ty.size + j']? = some (vs i' j') := by
            by_cases hii' : i' = ii
            · subst hii'
              have hd0 : ∃ d0, (ty.cells x0)[j']? = some d0 := by
                have : j' < (ty.cells x0).length := by rw [Ty.cells_length]; exact hj'
                exact ⟨_, List.getElem?_eq_getElem this⟩
              obtain ⟨d0, hd0⟩ := hd0
              simpa using hc i' x0 j' d0 hx0 hd0
            · rw [List.getElem?_set, if_neg (Ne.symm hii')] at hx'
              simpa using hc i' x' j' d' hx' hd'
          rw [if_neg hin]
          have hcase : i' * ty.size + j' < ii * sz + off ∨ ii * sz + off + us.length ≤ i' * ty.size + j' := by
            rw [← hsz2, hul]
            by_cases hii' : i' = ii
            · subst hii'
              have : ¬ (off ≤ j' ∧ j' < off + n) := fun hh => hin ⟨rfl, hh⟩
              omega
            · rcases Nat.lt_or_gt_of_ne hii' with hl | hl
              · have : (i' + 1) * ty.size ≤ ii * ty.size := Nat.mul_le_mul_right _ hl
                rw [Nat.succ_mul] at this
                omega
              · have : (ii + 1) * ty.size ≤ i' * ty.size := Nat.mul_le_mul_right _ hl
                rw [Nat.succ_mul] at this
                omega
          rcases hcase with hl | hl
          · have a1 : i' * ty.size + j' < ii * sz + off + us.length := by omega
            rw [if_pos a1, if_pos hl, if_pos hl]; exact hold
          · have a1 : ¬ i' * ty.size + j' < ii * sz + off + us.length := by omega
            rw [if_neg a1]
            have a2 : ii * sz + off + us.length + (i' * ty.size + j' - (ii * sz + off + us.length)) = i' * ty.size + j' := by omega
            rw [a2]; exact hold
      · intro i' x' j' d' hx' hd'
        have hmv : ∀ b' oo, G.S b' oo → G1.S b' oo ∧ (w.setRow b arr').cell? ⟨b', oo, none⟩ = w.cell? ⟨b', oo, none⟩ := fun b' oo hs =>
          ⟨(m7.s b' oo).2 (.inl hs), World.cell?_of_block (w := w) (hoth b' fun eb => hSb oo (eb ▸ (m7.s b' oo).2 (.inl hs)))⟩
        by_cases hin : i' = ii ∧ off ≤ j' ∧ j' < off + n
        · obtain ⟨rfl, h11, h12⟩ := hin
          rw [List.getElem?_set, if_pos rfl, if_pos hii] at hx'
          cases hx'
          rw [Ty.ofCells_some h6] at hd'
          have hdd : ds[j' - off]? = some d' := by
            simp only [setSeg, List.getElem?_append, List.getElem?_take, List.getElem?_drop, List.length_append, List.length_take, Ty.cells_length, hdl, hn] at hd'
            have m1 : min off ty.size = off := by omega
            rw [m1] at hd'
            have a1 : j' < off + n := h12
            have a2 : ¬ j' < off := by omega
            simpa [a1, a2] using hd'
          obtain ⟨cc, tyc, hcc, hcd⟩ := hdg _ _ hdd
          obtain ⟨bb, hb1, hb2⟩ := csDeep_get h5 _ cc hcc
          have hlt : j' - off < us.length := by omega
          have hcr := hcs.get.2 _ cc us[j' - off] hcc (by simp [hlt])
          have := cell_in h hcd hcr hb1 hb2 (S' := G1.S) (keys := ownKeys v.cells) (fun xx oo hs => (m7.s xx oo).2 hs) fun k' j'' ec => ownKeys_mem (ec ▸ List.mem_of_getElem? hcc)
          simp only [h11, h12, and_self, if_true]
          have hg : us.getD (j' - off) undef = us[j' - off] := by simp [hlt]
          rw [hg]
          refine (this.move (fun b' oo hs => ⟨hs, World.cell?_of_block (w := w) (hoth b' fun eb => hSb oo (eb ▸ hs))⟩) fun c hc' => hoth c fun eb => ?_).sub (fun c hc' => ⟨cc, hcc, hc'⟩) fun ee => (Bool.and_eq_true _ _ ▸ ee).2
          exact hrows_ne _ cc c hcc hc' (by rw [eb]; exact hfb)
        · simp only [if_neg hin]
          have hw' : Ow w G.S deep d' (vs i' j') (fps i' j') := by
            by_cases hii' : i' = ii
            · subst hii'
              rw [List.getElem?_set, if_pos rfl, if_pos hii] at hx'
              cases hx'
              rw [Ty.ofCells_some h6] at hd'
              refine hrr i' x0 j' d' hx0 ?_
              have hno : ¬ (off ≤ j' ∧ j' < off + n) := fun hh => hin ⟨rfl, hh⟩
              simp only [setSeg, List.getElem?_append, List.getElem?_take, List.getElem?_drop, List.length_append, List.length_take, Ty.cells_length, hdl, hn] at hd'
              have m1 : min off ty.size = off := by omega
              rw [m1] at hd'
              by_cases hl : j' < off
              · have a1 : j' < off + n := by omega
                simpa [a1, hl] using hd'
              · have a1 : ¬ j' < off + n := by omega
                have a2 : off + n + (j' - (off + n)) = j' := by omega
                simpa [a1, a2] using hd'
            · rw [List.getElem?_set, if_neg (Ne.symm hii')] at hx'
              exact hrr i' x' j' d' hx' hd'
          refine (hw'.move hmv fun c hc' => hoth c (hf i' j' c hc').2).sub (fun c hc' => ?_) fun ee => (Bool.and_eq_true _ _ ▸ ee).1
          first | exact hc' | (rw [if_neg hin]; exact hc')
      · intro i' j' c hcf
        split at hcf
        · obtain ⟨cc, hcc, hrow⟩ := hcf
          refine ⟨?_, fun eb => hrows_ne _ cc c hcc hrow (by rw [eb]; exact hfb)⟩
          show (if _ then some (Owner.own k j) else G1.ow c) = _
          rw [if_pos ⟨_, cc, hcc, hrow⟩]
        · refine ⟨?_, (hf i' j' c hcf).2⟩
          show (if _ then some (Owner.own k j) else G1.ow c) = _
          split
          · rfl
          · rw [m7.ow]; exact (hf i' j' c hcf).1
      · intro i1 j1 i2 j2 c hc1 hc2
        split at hc1
        · rename_i hin1
          obtain ⟨cc1, hcc1, hrow1⟩ := hc1
          split at hc2
          · rename_i hin2
            obtain ⟨cc2, hcc2, hrow2⟩ := hc2
            obtain ⟨k1, l1, rfl, how1, _⟩ := hrow1
            obtain ⟨k2, l2, rfl, how2, _⟩ := hrow2
            rw [how1] at how2
            cases how2
            have := ownKeys_unique hnk hcc1 hcc2
            omega
          · exact absurd (hf i2 j2 c hc2).1 (hrows_ne _ cc1 c hcc1 hrow1)
        · split at hc2
          · obtain ⟨cc2, hcc2, hrow2⟩ := hc2
            exact absurd (hf i1 j1 c hc1).1 (hrows_ne _ cc2 c hcc2 hrow2)
          · exact hdis _ _ _ _ _ hc1 hc2
      · intro oo hs
        exact absurd hs (hSb oo)
    have h11 := h10.updO k j _ hnew
    have hpv' : a.eval p = .pointer (some ⟨b, ii * sz + off, none⟩) := hpv
    have e1 : arr.toList.length = arr.size := Array.length_toList
    have hst : (S1.setO k ((S1.getO k).set j .dead)).setO k (((S1.setO k ((S1.getO k).set j .dead)).getO k).set j (.own ty (xs.set ii y) (deep && dp) true)) = S1.put (.upd k j (.own ty (xs.set ii y) (deep && dp) true)) := by
      show _ = S1.setO k ((S1.getO k).set j _)
      by_cases hkl : k < S1.owns.length
      · rw [setO_setO, getO_setO, if_pos ⟨rfl, hkl⟩, List.set_set]
      · simp only [setO_out hkl]
    rw [hst] at h11
    have h12 := h11.dst (o := o) (undef_rep (G := _) (w := _))
    have hpu : S.puts (((ownKeys v.cells).map fun q => W.ro q.1 q.2) ++ (.upd k j (.own ty (xs.set ii y) (deep && dp) true) :: dstT o (.tup []))) = (S1.put (.upd k j (.own ty (xs.set ii y) (deep && dp) true))).puts (dstT o (.tup [])) := by
      rw [puts_append, hS1]; rfl
    rw [← hpu] at h12
    exact wp_of_skip (op_store_run ho hpv' (run_storeVar hi hb hus (by omega) (by omega) hcs.one)) (hK _ _ _ h12)
  · cases hv
end ops
end Go.Abs
