/- New lists: literals of slices, make. -/
import Derived.Test.YtiedhibpaooldaaSound8
namespace Go.Abs
open Go.RowKit

theorem flat_get {α β : Type} (f : α → List β) (n : Nat) : ∀ (xs : List α), (∀ x ∈ xs, (f x).length = n) → ∀ (i j : Nat) (x : α), xs[i]? = some x → j < n → (xs.flatMap f)[i * n + j]? = (f x)[j]?
  | [], _, i, j, x, h, _ => by simp at h
  | x0 :: xs, hl, i, j, x, h, hj => by
    have h0 := hl x0 List.mem_cons_self
    cases i with
    | zero =>
      simp at h; subst h
      simp only [List.flatMap_cons, Nat.zero_mul, Nat.zero_add]
      rw [List.getElem?_append_left (by omega)]
    | succ i =>
      have ih := flat_get f n xs (fun y hy => hl y (List.mem_cons_of_mem _ hy)) i j x (by simpa using h) hj
      rw [← ih]
      simp only [List.flatMap_cons]
      rw [List.getElem?_append_right (by rw [h0, Nat.succ_mul]; omega)]
      congr 1
      rw [h0, Nat.succ_mul]; omega
theorem flat_length {α β : Type} (f : α → List β) (n : Nat) : ∀ (xs : List α), (∀ x ∈ xs, (f x).length = n) → (xs.flatMap f).length = xs.length * n
  | [], _ => by simp
  | x0 :: xs, hl => by
    rw [List.flatMap_cons, List.length_append, hl x0 List.mem_cons_self, flat_length f n xs fun y hy => hl y (List.mem_cons_of_mem _ hy), List.length_cons, Nat.succ_mul]
    omega
theorem ownKeys_unique : ∀ {cs : List C}, nodupB (ownKeys cs) = true → ∀ {p q k j : Nat}, cs[p]? = some (.own k j) → cs[q]? = some (.own k j) → p = q
  | [], _, p, q, k, j, hp, _ => by simp at hp
  | c :: cs, hn, p, q, k, j, hp, hq => by
    have hn' : nodupB (ownKeys cs) = true ∧ ∀ k j, c = .own k j → (k, j) ∉ ownKeys cs := by
      cases c <;> simp only [ownKeys] at hn <;> first
        | exact ⟨hn, fun _ _ e => by cases e⟩
        | (obtain ⟨h1, h2⟩ := nodupB_cons hn; exact ⟨h2, fun _ _ e => by cases e; exact h1⟩)
    cases p with
    | zero =>
      simp at hp
      cases q with
      | zero => rfl
      | succ q => simp at hq; exact absurd (ownKeys_mem (List.mem_of_getElem? hq)) (hn'.2 k j hp)
    | succ p =>
      simp at hp
      cases q with
      | zero => simp at hq; exact absurd (ownKeys_mem (List.mem_of_getElem? hp)) (hn'.2 k j hq)
      | succ q => simp at hq; rw [ownKeys_unique hn'.1 hp hq]
theorem two_index {i j i' j' n : Nat} (hj : j < n) (hj' : j' < n) (h : i * n + j = i' * n + j') : i = i' ∧ j = j' := by
  have h1 : i = i' := by
    have e1 : (i * n + j) / n = i := by rw [Nat.mul_comm, Nat.mul_add_div (by omega), Nat.div_eq_of_lt hj]; omega
    have e2 : (i' * n + j') / n = i' := by rw [Nat.mul_comm, Nat.mul_add_div (by omega), Nat.div_eq_of_lt hj']; omega
    rw [← e1, ← e2, h]
  subst h1
  omega

section ops
variable {P : Program} {w0 : Bs} {G : Gh} {S : St} {a : Act} {w : World} {o : Oper} {K : Act → World → Prop} {Q : Exit → Act → World → Prop}

/-- A new owned list, and the slot that gets it. -/
theorem Inv.newList (h : Inv w0 G S a w) (d : Nat) {t : Ty} {xs : List t.den} {deep m : Bool} {v : Value} (lab : Nat → Prop) (hd : S.getO d = [])
    (hlab : ∀ c, lab c → w0.w.heap.size ≤ c ∧ c < w.heap.size ∧ (∀ i, G.ow c ≠ some (.box i)) ∧ ∀ k' j' t xs deep m, G.ow c = some (.own k' j') → oget (S.getO k') j' ≠ .own t xs deep m)
    (hos : OwT w G.S deep m t xs v lab) :
    ∃ G', Inv w0 G' ((S.setO d [.own t xs deep m]).setT d (.v (.one (.own d 0)))) (a.put (some d) v) w := by
  by_cases hdl : d < S.tmps.length
  case neg =>
    refine ⟨G, ?_⟩
    rw [put_out h.tsz hdl, setO_out (by rw [h.osz]; exact hdl), setT_out hdl]
    exact h
  classical
  obtain ⟨G', h', hm, hlk, hov⟩ := h.newOwns d [.own t xs deep m] (fun _ => v) (fun c => if lab c then some 0 else none) hd hdl (by simp)
    (fun c j hc => by
      by_cases hl : lab c
      · exact hlab c hl
      · rw [if_neg hl] at hc; cases hc)
    (fun j => by
      cases j with
      | zero =>
        show OwT w G.S deep m t xs v _
        exact OwT.move hos (fun b o hs => ⟨hs, rfl⟩) (fun b hb => ⟨if_pos hb, rfl⟩) (fun _ _ _ _ _ o hs => .inl hs)
      | succ j => trivial)
  exact ⟨G', h'.setT d (av := .v (.one (.own d 0))) ⟨hlk, (hov 0).symm, (OwT.ow hos).one⟩⟩

theorem vEls_get {t : Ty} : ∀ {vs : List V} {xs : List t.den}, (vEls t vs).val S = some xs → xs.length = vs.length ∧ (∀ v ∈ vs, v.cells.length = t.size) ∧
    ∀ (i : Nat) (x : t.den), xs[i]? = some x → ∃ v, vs[i]? = some v ∧ ∀ (j : Nat) (d : D), (t.cells x)[j]? = some d → ∃ c ty, v.cells[j]? = some c ∧ (cD ty c).val S = some d
  | [], xs, h => by
    simp only [vEls, Rd.val, Option.some.injEq] at h
    subst h
    exact ⟨rfl, fun v hv => (by cases hv), fun i x hx => (by simp at hx)⟩
  | v :: vs, xs, h => by
    simp only [vEls, Rd.val_bind, Option.bind_eq_some_iff, Rd.val, Option.some.injEq] at h
    obtain ⟨x, h1, xs', h2, rfl⟩ := h
    obtain ⟨hl, hc, hg⟩ := vEls_get h2
    simp only [vEl] at h1
    split at h1
    · rename_i hsz
      simp only [Rd.val_bind, Option.bind_eq_some_iff, Rd.val, Option.some.injEq] at h1
      obtain ⟨ds, h3, y, h4, h5⟩ := h1
      subst h5
      refine ⟨by simp [hl], fun u hu => ?_, fun i z hz => ?_⟩
      · rcases List.mem_cons.1 hu with rfl | hu
        · exact hsz
        · exact hc u hu
      · cases i with
        | zero =>
          simp at hz
          subst hz
          refine ⟨v, rfl, fun j d hd => ?_⟩
          rw [Ty.ofCells_some h4] at hd
          have key : ∀ (tys : List (Option Ty)) (cs : List C) (ds : List D), (cDs tys cs).val S = some ds → ∀ (j : Nat) (d : D), ds[j]? = some d → ∃ c ty, cs[j]? = some c ∧ (cD ty c).val S = some d := by
            intro tys
            induction tys with
            | nil => intro cs ds hh j d hd; simp only [cDs, Rd.val, Option.some.injEq] at hh; subst hh; simp at hd
            | cons ty tys ih =>
              intro cs ds hh j d hd
              cases cs with
              | nil => simp only [cDs, Rd.val, Option.some.injEq] at hh; subst hh; simp at hd
              | cons c cs =>
                simp only [cDs, Rd.val_bind, Option.bind_eq_some_iff, Rd.val, Option.some.injEq] at hh
                obtain ⟨d0, e1, ds0, e2, rfl⟩ := hh
                cases j with
                | zero => simp at hd; subst hd; exact ⟨c, ty, rfl, e1⟩
                | succ j => exact ih cs ds0 e2 j d (by simpa using hd)
          exact key _ _ _ h3 j d hd
        | succ i => exact hg i z (by simpa using hz)
    · cases h1

/-- The cells of a row that holds a list's elements. -/
theorem elems_own (h : Inv w0 G S a w) {t : Ty} {vs : List V} {xs : List t.den} (hx : (vEls t vs).val S = some xs) {vals : List Value} (hc : CsRep G w (vs.flatMap V.cells) vals)
    {dp : Bool} (hdp : (csDeep (vs.flatMap V.cells)).val S = some dp) {S' : Nat → Nat → Prop} (hS : ∀ x o, (G.S x o ∨ AK G S (ownKeys (vs.flatMap V.cells)) x o) → S' x o) :
    ∀ (i : Nat) (x : t.den) (j : Nat) (d : D), xs[i]? = some x → (t.cells x)[j]? = some d →
      ∃ c v, (vs.flatMap V.cells)[i * t.size + j]? = some c ∧ vals[i * t.size + j]? = some v ∧ Ow w S' dp d v (rowsOf G S c) := by
  intro i x j d hxi hd
  obtain ⟨hl, hsz, hg⟩ := vEls_get hx
  obtain ⟨v, hv, hcell⟩ := hg i x hxi
  obtain ⟨c, ty, hcj, hcd⟩ := hcell j d hd
  have hj : j < t.size := by
    have := (List.getElem?_eq_some_iff.1 hd).1
    rwa [Ty.cells_length] at this
  have hfl : (vs.flatMap V.cells)[i * t.size + j]? = some c := by rw [flat_get V.cells t.size vs hsz i j v hv hj]; exact hcj
  obtain ⟨hlen, hrep⟩ := hc.get
  have hlt : i * t.size + j < vals.length := by have := (List.getElem?_eq_some_iff.1 hfl).1; omega
  have hcr := hrep _ c vals[i * t.size + j] hfl (by simp [hlt])
  obtain ⟨b, hb1, hb2⟩ := csDeep_get hdp _ c hfl
  exact ⟨c, vals[i * t.size + j], hfl, by simp [hlt], cell_in h hcd hcr hb1 hb2 hS fun k j' e => ownKeys_mem (e ▸ List.mem_of_getElem? hfl)⟩

theorem partsV_rep (h : Inv w0 G S a w) (sz : Nat) : ∀ {parts : List (Nat × Operand)} {k : Nat} {vs : List V} {arr : Array Value}, (partsV parts k).val S = some vs → (∀ v ∈ vs, v.cells.length = sz) → (k + vs.length) * sz ≤ arr.size →
    ∃ vals : List Value, CsRep G w (vs.flatMap V.cells) vals ∧ Instr.fill (fun i => some (i * sz, sz)) arr (parts.map fun p => (p.1, a.eval p.2)) = some (setSeg arr.toList (k * sz) vals).toArray
  | [], k, vs, arr, hv, _, _ => by
    simp only [partsV, Rd.val, Option.some.injEq] at hv
    subst hv
    exact ⟨[], trivial, by simp [Instr.fill, setSeg]⟩
  | (i, x) :: r, k, vs, arr, hv, hsz, hl => by
    simp only [partsV] at hv
    split at hv
    · rename_i hik
      subst hik
      simp only [Rd.val_bind, Option.bind_eq_some_iff, Rd.val, Option.some.injEq] at hv
      obtain ⟨av, h1, v, h2, vs', h3, rfl⟩ := hv
      have hr := avV_rep h2 (evalO_rep h h1)
      obtain ⟨us, hus, hcs⟩ := hr.vcells
      have hvl := hsz v List.mem_cons_self
      have hul := hcs.length
      have hle : i * sz + sz ≤ arr.size := by
        have : (i + 1) * sz ≤ arr.size := Nat.le_trans (Nat.mul_le_mul_right _ (by simp)) hl
        rwa [Nat.succ_mul] at this
      obtain ⟨vals, h4, h5⟩ := partsV_rep h sz (arr := (setSeg arr.toList (i * sz) us).toArray) h3 (fun u hu => hsz u (List.mem_cons_of_mem _ hu))
        (by
          have e := setSeg_length arr.toList (i * sz) us (by simp; omega)
          have e2 : i + 1 + vs'.length = i + (vs'.length + 1) := by omega
          simp only [List.length_cons] at hl
          rw [e2]
          show _ ≤ (setSeg arr.toList (i * sz) us).length
          rw [e]; exact hl)
      refine ⟨us ++ vals, ?_, ?_⟩
      · simp only [List.flatMap_cons]
        obtain ⟨l1, g1⟩ := hcs.get
        obtain ⟨l2, g2⟩ := h4.get
        refine CsRep.mk (by simp only [List.length_append, l1, l2]) fun p c u hc hu => ?_
        rw [List.getElem?_append] at hc hu
        split at hc
        · rename_i hp; rw [if_pos (by omega)] at hu; exact g1 p c u hc hu
        · rename_i hp; rw [if_neg (by omega)] at hu; rw [l1] at hc; exact g2 _ c u hc hu
      · simp only [List.map_cons]
        rw [fill_one (n := sz) (off := i * sz) rfl hus (by omega) hle, h5]
        congr 1
        simp only [setSeg]
        have e : (i + 1) * sz = i * sz + sz := Nat.succ_mul _ _
        rw [e]
        have hsl : us.length = sz := by omega
        congr 1
        apply List.ext_getElem?
        intro p
        simp only [List.getElem?_append, List.getElem?_take, List.getElem?_drop, List.length_append, List.length_take, Array.length_toList, hsl]
        have m1 : min (i * sz) arr.size = i * sz := by omega
        have m2 : min (i * sz + sz) (i * sz + sz + (arr.size - (i * sz + sz))) = i * sz + sz := by omega
        simp only [m1, List.length_drop, Array.length_toList, m2]
        by_cases p1 : p < i * sz
        · have : p < i * sz + sz := by omega
          have p2 : p < i * sz + sz + vals.length := by omega
          have p3 : p < i * sz + (sz + vals.length) := by omega
          simp [p1, this, p2, p3]
        · by_cases p4 : p < i * sz + sz
          · have p2 : p < i * sz + sz + vals.length := by omega
            have p3 : p < i * sz + (sz + vals.length) := by omega
            have p5 : p - i * sz < sz := by omega
            simp [p1, p4, p2, p3, p5]
          · by_cases p2 : p < i * sz + sz + vals.length
            · have p3 : p < i * sz + (sz + vals.length) := by omega
              have p5 : ¬ p - i * sz < sz := by omega
              have p6 : p - (i * sz + sz) = p - i * sz - sz := by omega
              simp [p1, p4, p2, p3, p5, p6]
            · have p3 : ¬ p < i * sz + (sz + vals.length) := by omega
              have p7 : ¬ (i * sz + sz + vals.length + (p - (i * sz + sz + vals.length)) < i * sz) := by omega
              have p8 : ¬ (i * sz + sz + vals.length + (p - (i * sz + sz + vals.length)) < i * sz + sz) := by omega
              simp only [p2, p3, p7, p8, if_false]
              congr 1
              omega
    · cases hv

theorem op_buildSlice (h : Inv w0 G S a w) {T : TypeId} {n : Nat} {parts : Array (Nat × Operand)} (ho : o.op = .buildSlice T n parts) {E : Env} (hT : E.tt.ok P = true) {ws : List W} (hv : (eff E o).val S = some ws)
    (hK : ∀ a' w' G', Inv w0 G' (S.puts ws) a' w' → K a' w') : o.wp P a w K Q := by
  unfold eff at hv
  rw [ho] at hv
  simp only at hv
  split at hv
  · rename_i d t hd ht
    obtain ⟨e, inf, z, hu, hi, hsz, hby, hz, hzs, hzm⟩ := TT.elem_ok hT ht
    simp only [Rd.val_bind, Option.bind_eq_some_iff] at hv
    obtain ⟨vs, h1, hv⟩ := hv
    split at hv
    · rename_i hn
      simp only [Rd.val_bind, Option.bind_eq_some_iff] at hv
      obtain ⟨xs, h2, dp, h3, hv⟩ := hv
      split at hv
      · rename_i hnd
        simp only [Rd.val_bind, Option.bind_eq_some_iff, Rd.val, Option.some.injEq] at hv
        obtain ⟨ws', h4, rfl⟩ := hv
        obtain ⟨hdO, rfl⟩ := fresh_val h4
        obtain ⟨hxl, hvsz, _⟩ := vEls_get h2
        let arr0 : Array Value := (Array.range (n * t.size)).map (fun m => (if n * t.size = 0 then (#[] : Array Value) else z.cells)[m % (if n * t.size = 0 then (#[] : Array Value) else z.cells).size]!)
        have harr0 : arr0.size = n * t.size := by simp [arr0]
        obtain ⟨vals, hvals, hfill⟩ := partsV_rep h t.size (arr := arr0) h1 hvsz (by rw [Nat.zero_add, hn.1, harr0]; exact Nat.le_refl _)
        have hvl : vals.length = n * t.size := by rw [← hvals.length, flat_length V.cells t.size vs hvsz, hn.1]
        have hset : setSeg arr0.toList (0 * t.size) vals = vals := by
          simp [setSeg, hvl, harr0]
        rw [hset] at hfill
        obtain ⟨G1, h5, m5, e5, n5⟩ := Inv.toRos (ownKeys (vs.flatMap V.cells)) h hnd
        have hbel : Below w.heap.size w (w.alloc (.cells vals.toArray e)) := (Below.refl _ _).alloc (Nat.le_refl _) _
        have h6 := h5.grow hbel
        have hnew := heap_alloc_new w (.cells vals.toArray e)
        -- the list
        have hO : OwT (w.alloc (.cells vals.toArray e)) G1.S dp true t xs (.slice (some ⟨w.heap.size, 0, none⟩) n n)
            (fun c => c = w.heap.size ∨ ∃ (p : Nat) (cc : C), (vs.flatMap V.cells)[p]? = some cc ∧ rowsOf G S cc c) := by
          have hel := elems_own h h2 hvals h3 (S' := G1.S) fun x o hs => (m5.s x o).2 hs
          refine .inr ⟨w.heap.size, n, vals.toArray, e, fun i j => vals.getD (i * t.size + j) undef,
            fun i j c => j < t.size ∧ i < xs.length ∧ ∃ cc : C, (vs.flatMap V.cells)[i * t.size + j]? = some cc ∧ rowsOf G S cc c, ?_, hnew, ?_, ?_, ?_, .inl rfl, ?_, ?_, ?_, ?_, ?_⟩
          · rw [hxl, hn.1]
          · rw [hxl, hn.1]; exact Nat.le_refl _
          · have := hn.2
            have hp := t.size_pos
            have : n ≤ n * t.size := Nat.le_mul_of_pos_right _ hp
            unfold maxLen; omega
          · simp [hvl]
          · intro i x j dd hxi hdd
            obtain ⟨c, v, _, hv, _⟩ := hel i x j dd hxi hdd
            simp only [List.getElem?_toArray, List.getD_eq_getElem?_getD, hv, Option.getD_some]
          · intro i x j dd hxi hdd
            obtain ⟨c, v, hc, hv, hw⟩ := hel i x j dd hxi hdd
            have hj : j < t.size := by
              have := (List.getElem?_eq_some_iff.1 hdd).1
              rwa [Ty.cells_length] at this
            simp only [List.getD_eq_getElem?_getD, hv, Option.getD_some]
            refine (hw.move (S' := G1.S) (fun x o hs => ⟨hs, hbel.cell (p := ⟨x, o, none⟩) (h5.sok x o hs).1⟩) fun c' hc' => ?_).sub (fun c' hc' => ⟨hj, (List.getElem?_eq_some_iff.1 hxi).1, c, hc, hc'⟩) fun e => e
            obtain ⟨k, jj, _, how, _⟩ := hc'
            exact hbel.block _ (h.olt _ _ how).2
          · rintro i j c ⟨_, _, cc, hcc, hrow⟩
            refine ⟨.inr ⟨_, cc, hcc, hrow⟩, ?_⟩
            obtain ⟨k, jj, _, how, _⟩ := hrow
            have := (h.olt _ _ how).2
            omega
          · rintro i j i' j' c ⟨hj, hi', cc, hcc, k, l, rfl, how, _⟩ ⟨hj', _, cc', hcc', k', l', rfl, how', _⟩
            rw [how] at how'
            cases how'
            exact two_index hj hj' (ownKeys_unique hnd hcc hcc')
          · intro oo hs
            exact absurd (h5.sok _ oo hs).1 (Nat.lt_irrefl _)
        obtain ⟨G2, h7⟩ := h6.newList d (v := .slice (some ⟨w.heap.size, 0, none⟩) n n) (fun c => c = w.heap.size ∨ ∃ (p : Nat) (cc : C), (vs.flatMap V.cells)[p]? = some cc ∧ rowsOf G S cc c) (n5 d hdO) (fun c hc => by
          rcases hc with rfl | ⟨p, cc, hcc, k, jj, rfl, how, t', xs', deep', m', hown⟩
          · refine ⟨h.below.size, by simp, fun i hb => ?_, fun k' j' _ _ _ _ hb => ?_⟩
            · rw [m5.ow] at hb; exact absurd (h.olt _ _ hb).2 (Nat.lt_irrefl _)
            · rw [m5.ow] at hb; exact absurd (h.olt _ _ hb).2 (Nat.lt_irrefl _)
          · have hlt := h.olt _ _ how
            refine ⟨hlt.1, by simp; omega, fun i hb => ?_, fun k' j' t2 xs2 d2 m2 hb => ?_⟩
            · rw [m5.ow, how] at hb; cases hb
            · rw [m5.ow, how] at hb
              cases hb
              rw [e5, if_pos (ownKeys_mem (List.mem_of_getElem? hcc)), hown]
              simp [O.toRo]) hO
        refine wp_of_run (v := .slice (some ⟨w.heap.size, 0, none⟩) n n) (w' := w.alloc (.cells vals.toArray e)) ?_ (hK _ _ G2 ?_)
        · have hf2 : Instr.fill (fun i => some (i * inf.size, inf.size)) arr0 (parts.toList.map fun p => (p.1, a.eval p.2)) = some vals.toArray := by rw [hsz]; exact hfill
          unfold execOp
          simp only [ho, Instr.buildSlice, Sem.run_bind, run_underlying hu, Result.andThen_ok, sizeOf, typeInfo, run_program, hi, Sem.run_pure, hsz]
          have hle : ¬ n * t.size > 2 ^ 24 := by have := hn.2; omega
          simp only [hle, if_false]
          have e0 : ∀ f : Nat → Value, Array.map f (Array.range 0) = #[] := fun f => Array.eq_empty_of_size_eq_zero (by simp)
          by_cases h0 : n * t.size = 0
          · simp only [h0, if_true]
            simp only [arr0, h0, if_true, e0] at hf2
            rw [hsz] at hf2
            simp [hf2, newRow, e0]
          · simp only [h0, if_false, Sem.run_bind, zeroValue, typeInfo, run_program, Result.andThen_ok, hi, Sem.run_pure, hz]
            simp only [arr0, h0, if_false] at hf2
            rw [hsz] at hf2
            simp [hf2, newRow]
        · rw [hd, puts_append, puts_append]
          exact h7
      · cases hv
    · cases hv
  · cases hv
end ops
end Go.Abs
