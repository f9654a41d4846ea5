/- append: the operation. -/
import Derived.Test.YtiedhibpaooldaaSound11
namespace Go.Abs
open Go.RowKit

section ops
variable {P : Program} {w0 : Bs} {G : Gh} {S : St} {a : Act} {w : World} {o : Oper} {K : Act → World → Prop} {Q : Exit → Act → World → Prop}

theorem gd_some {n : Nat} {u : Unit} (h : gd n = some u) : n ≤ 34359738368 := by
  unfold gd at h
  split at h
  · assumption
  · cases h

theorem OwT.weaken {S : Nat → Nat → Prop} {deep deep' m : Bool} {t : Ty} {xs : List t.den} {v : Value} {fp fp' : Nat → Prop} (h : OwT w S deep m t xs v fp) (hd : deep' = true → deep = true) (hf : ∀ c, fp c → fp' c) : OwT w S deep' m t xs v fp' := by
  rcases h with h | ⟨b, cap, arr, E, vs, fps, rfl, hb, hcap, hmax, hsz, hfb, hc, hr, hfp, hdis, hs⟩
  · exact .inl h
  · exact .inr ⟨b, cap, arr, E, vs, fps, rfl, hb, hcap, hmax, hsz, hf _ hfb, hc, fun i x j d hx hd' => (hr i x j d hx hd').sub (fun _ hc => hc) hd, fun i j c hc => ⟨hf _ (hfp i j c hc).1, (hfp i j c hc).2⟩, hdis, hs⟩

theorem ow_scalar {S S' : Nat → Nat → Prop} {dp : Bool} {d : D} {v : Value} {fp fp' : Nat → Prop} (hs : tyOfD d = none) (h : Ow w S dp d v fp) : Ow w S' dp d v fp' := by
  cases h with
  | int k n => exact .int k n _
  | bool b => exact .bool b _
  | str v => exact .str v _
  | nil t fp => cases hs
  | ro d v fp hd'' h'' => exact scalar_ow hs h''
  | list => cases hs

theorem run_append_nilsrc (t ty e : TypeId) (i : TypeInfo) (ht : P.underlying t = some (.slice e)) (hi : P.info? e = some i) (base : Option Addr) (n cap : Nat) (hn : n ≤ cap) :
    (Builtin.append_ #[t, t] ty #[.slice base n cap, .slice none 0 0]).run P w = .ok (.slice base n cap) w := by
  cases base <;> simp [Builtin.append_, run_underlying ht, sizeOf, typeInfo, hi, Builtin.lenOf, hn, run_firstCells_none, storeCells]
theorem run_append_empsrc (t ty e : TypeId) (i : TypeInfo) (ht : P.underlying t = some (.slice e)) (hi : P.info? e = some i) (base : Option Addr) (n cap : Nat) (hn : n ≤ cap) (ad : Option Addr) (c : Nat) (had : ad = none → c = 0) :
    (Builtin.append_ #[t, t] ty #[.slice base n cap, .slice ad 0 c]).run P w = .ok (.slice base n cap) w := by
  cases ad with
  | none => rw [had rfl]; exact run_append_nilsrc t ty e i ht hi base n cap hn
  | some b =>
    have hf := run_firstCells_some (P := P) w i.size 0 b 0 c [] (by simp) (by simp)
    cases base <;> simp [Builtin.append_, run_underlying ht, sizeOf, typeInfo, hi, Builtin.lenOf, hn, hf, storeCells]
theorem run_append_nilnil (t ty e : TypeId) (i : TypeInfo) (ht : P.underlying t = some (.slice e)) (hi : P.info? e = some i) (b : Addr) (c : Nat) :
    (Builtin.append_ #[t, t] ty #[.slice none 0 0, .slice (some b) 0 c]).run P w = .ok (.slice none 0 0) w := by
  have hf := run_firstCells_some (P := P) w i.size 0 b 0 c [] (by simp) (by simp)
  simp [Builtin.append_, run_underlying ht, sizeOf, typeInfo, hi, Builtin.lenOf, hf]
theorem run_append_room' (t ty e E : TypeId) (i : TypeInfo) (ht : P.underlying t = some (.slice e)) (hi : P.info? e = some i)
    (g sLen sCap : Nat) (cur : Array Value) (hg : w.heap[g]? = some (.cells cur E (0, 0)))
    (a : Addr) (m c : Nat) (news : List Value) (hl : news.length = m * i.size) (hnews : ∀ j u, news[j]? = some u → w.cell? (a.add j) = some u) (h1 : ∀ u ∈ news, u.oneCell' = true)
    (hroom : sLen + m ≤ sCap) (hfit : sLen * i.size + news.length ≤ cur.size) :
    (Builtin.append_ #[t, t] ty #[.slice (some ⟨g, 0, none⟩) sLen sCap, .slice (some a) m c]).run P w =
      .ok (.slice (some ⟨g, 0, none⟩) (sLen + m) sCap) (w.setRow g (cur.toList.take (sLen * i.size) ++ news ++ cur.toList.drop (sLen * i.size + news.length)).toArray) := by
  have hf := run_firstCells_some (P := P) w i.size m a m c news hl hnews
  have hst := run_storeCells_at P g (sLen * i.size) E news 0 cur w hg (by simpa using hfit) h1
  simp only [Nat.add_zero] at hst
  simp [Builtin.append_, run_underlying ht, sizeOf, typeInfo, hi, Builtin.lenOf, hroom, hf, Addr.add_lit, hst]

theorem append_core (h : Inv w0 G S a w) {c : Call} (ho : o.op = .call c) (hcc : c.callee = .builtin .append) {x y : Operand} {T : TypeId} (hargs : c.args = #[x, y]) (htys : c.argTypes = #[T, T])
    {TT0 : TT} (hT : TT0.ok P = true) {t : Ty} (ht : lk TT0.elem T = some t) {d : Nat} (hd : o.dst = some d) (hdO : S.getO d = [])
    {xs ys : List t.den} {deep dp m : Bool} {labD labS : Nat → Prop} (hD : OwT w G.S deep m t xs (a.eval x) labD)
    (hY : ((∃ (ad : Option Addr) (cap : Nat), a.eval y = .slice ad 0 cap ∧ (ad = none → cap = 0)) ∧ ys = []) ∨ ∃ b off cap news, a.eval y = .slice (some ⟨b, off, none⟩) ys.length cap ∧ (∀ p u, news[p]? = some u → w.cell? ⟨b, off + p, none⟩ = some u) ∧ LaidC w G.S dp t ys news labS)
    (hds : ∀ c, labD c → labS c → False)
    (hfree : ∀ c, labD c ∨ labS c → w0.w.heap.size ≤ c ∧ c < w.heap.size ∧ (∀ i, G.ow c ≠ some (.box i)) ∧ ∀ k' j' t xs deep m, G.ow c = some (.own k' j') → oget (S.getO k') j' ≠ .own t xs deep m)
    (hgd : xs.length + ys.length ≤ 34359738368)
    (hK : ∀ a' w' G', Inv w0 G' ((S.setO d [.own t (xs ++ ys) (deep && dp) m]).setT d (.v (.one (.own d 0)))) a' w' → K a' w') : o.wp P a w K Q := by
  obtain ⟨e, inf, z, hu, hi, hsz, hby, hz, hzs, hzm⟩ := TT.elem_ok hT ht
  have hrun : ∀ {v' w'}, (Builtin.append_ #[T, T] o.type #[a.eval x, a.eval y]).run P w = .ok v' w' → (execOp a.eval o).run P w = .ok (.value v') w' := by
    intro v' w' hr
    refine run_call_builtin ho hcc ?_
    simp [builtin, hargs, htys, hr]
  have hb47 : ∀ k, k ≤ 34359738368 → k * inf.bytes ≤ 140737488355328 := fun k hk => by
    have := Nat.mul_le_mul hk hby
    omega
  have fin : ∀ {v' : Value} {w' : World} {lab : Nat → Prop}, Inv w0 G S a w' → (execOp a.eval o).run P w = .ok (.value v') w' → OwT w' G.S (deep && dp) m t (xs ++ ys) v' lab →
      (∀ c, lab c → w0.w.heap.size ≤ c ∧ c < w'.heap.size ∧ (∀ i, G.ow c ≠ some (.box i)) ∧ ∀ k' j' t xs deep m, G.ow c = some (.own k' j') → oget (S.getO k') j' ≠ .own t xs deep m) → o.wp P a w K Q := by
    intro v' w' lab h' hr hO hl
    obtain ⟨G2, h7⟩ := h'.newList d (v := v') lab hdO hl hO
    refine wp_of_run hr (hK _ _ G2 ?_)
    rw [hd]
    exact h7
  have new_free : ∀ c, c = w.heap.size → w0.w.heap.size ≤ c ∧ (∀ i, G.ow c ≠ some (.box i)) ∧ ∀ k' j' t xs deep m, G.ow c = some (.own k' j') → oget (S.getO k') j' ≠ .own t xs deep m := by
    rintro c rfl
    exact ⟨h.below.size, fun i hb => absurd (h.olt _ _ hb).2 (Nat.lt_irrefl _), fun k' j' _ _ _ _ hb => absurd (h.olt _ _ hb).2 (Nat.lt_irrefl _)⟩
  rcases hY with ⟨⟨ad, adc, hyv, had⟩, rfl⟩ | ⟨b, off, cap2, news, hyv, hmem, hL⟩
  · -- nothing is appended
    have hle : ∃ base n cap, a.eval x = .slice base n cap ∧ n ≤ cap := by
      rcases hD with ⟨hx, _⟩ | ⟨g, cap, arr, E, vs, fps, hx, _, hcap, _⟩
      · exact ⟨_, _, _, hx, Nat.le_refl _⟩
      · exact ⟨_, _, _, hx, hcap⟩
    obtain ⟨base, n, cap, hx, hn⟩ := hle
    refine fin (v' := a.eval x) (lab := labD) h (hrun ?_) ?_ fun c hc => hfree c (.inl hc)
    · rw [hx, hyv]; exact run_append_empsrc T o.type e inf hu hi base n cap hn ad adc had
    · rw [List.append_nil]; exact hD.weaken (fun e => (Bool.and_eq_true _ _ ▸ e).1) fun _ hc => hc
  · have hnl := hL.1
    have hone := hL.2.1
    have hnews : ∀ j u, news[j]? = some u → w.cell? ((⟨b, off, none⟩ : Addr).add j) = some u := fun j u hu => by rw [addr_add]; exact hmem j u hu
    -- a grown row
    have grown : ∀ {olds : List Value} {cap' : Nat} {old : Nat}, LaidC w G.S deep t xs olds labD → xs.length + ys.length ≤ cap' → cap' = grownCap w (xs.length + ys.length) old e →
        (Builtin.append_ #[T, T] o.type #[a.eval x, a.eval y]).run P w = .ok (.slice (some ⟨w.heap.size, 0, none⟩) (xs.length + ys.length) cap')
          (w.drew.alloc (.cells (olds.toArray ++ news.toArray ++ Builtin.zeroCells z.cells (cap' - (xs.length + ys.length))) e)) → o.wp P a w K Q := by
      intro olds cap' old hLD hle hcap' hr
      have hbel : Below w.heap.size w (w.drew.alloc (.cells (olds.toArray ++ news.toArray ++ Builtin.zeroCells z.cells (cap' - (xs.length + ys.length))) e)) := ((Below.refl _ _).drew).alloc (by simp) _
      have hnew := heap_alloc_new w.drew (.cells (olds.toArray ++ news.toArray ++ Builtin.zeroCells z.cells (cap' - (xs.length + ys.length))) e)
      refine fin (lab := fun c => c = w.heap.size ∨ labD c ∨ labS c) (h.grow hbel) (hrun hr) ?_ ?_
      · refine laid_append hLD hL hds hnew (rest := (Builtin.zeroCells z.cells (cap' - (xs.length + ys.length))).toList) ?_ hle ?_ ?_ (.inl rfl) ?_ ?_ ?_
        · simp
        · rw [hcap']; exact grownCap_le_maxLen w _ _ _ (by unfold maxLen; omega)
        · simp only [Array.size_append, List.size_toArray, size_zeroCells, hzs, hLD.1, hnl, ← Nat.add_mul]
          congr 1; omega
        · intro c hc
          have := (hfree c hc).2.1
          exact ⟨.inr hc, Nat.ne_of_lt this, hbel.block c this⟩
        · intro b' o' hs
          exact ⟨hs, hbel.cell (p := ⟨b', o', none⟩) (h.sok b' o' hs).1⟩
        · intro oo hs
          exact absurd (h.sok _ oo hs).1 (Nat.lt_irrefl _)
      · intro c hc
        rcases hc with hc | hc
        · obtain ⟨n1, n2, n3⟩ := new_free c hc
          exact ⟨n1, by subst hc; simp, n2, n3⟩
        · obtain ⟨n1, n2, n3, n4⟩ := hfree c hc
          exact ⟨n1, by simp; omega, n3, n4⟩
    rcases hD.laid with ⟨hxv, rfl⟩ | ⟨g, cap, arr, E, rest, olds, hxv, hg, hcap, hmax, hasz, hlg, harr, hLD, hsS⟩
    · by_cases hm : ys.length = 0
      · have hy0 := List.eq_nil_of_length_eq_zero hm
        subst hy0
        refine fin (v' := .slice none 0 0) (lab := labD) h (hrun ?_) (.inl ⟨rfl, rfl⟩) fun c hc => hfree c (.inl hc)
        rw [hxv, hyv]; exact run_append_nilnil T o.type e inf hu hi _ _
      · have hb := hb47 ys.length (by omega)
        have hr := run_append_nil (P := P) w T o.type e inf z hu hi hz ⟨b, off, none⟩ ys.length cap2 news (by rw [hsz]; exact hnl) hnews (by omega) (by omega) (by omega)
        have hge := grownCap_ge w ys.length 0 e
        refine grown (olds := []) (cap' := grownCap w ys.length 0 e) (old := 0) ⟨by simp, by simp, fun _ _ => undef, fun _ _ _ => False, fun i x j d hx => by simp at hx, fun _ _ _ hh => hh.elim, fun _ _ _ _ _ hh => hh.elim⟩ (by simpa using hge) (by simp) ?_
        rw [hxv, hyv]
        simpa using hr
    · have hxl : olds.length = xs.length * t.size := hLD.1
      by_cases hroom : xs.length + ys.length ≤ cap
      · -- in place
        have hfit : xs.length * inf.size + news.length ≤ arr.size := by rw [hsz, hnl, ← Nat.add_mul, hasz]; exact Nat.mul_le_mul_right _ hroom
        have hr := run_append_room' (P := P) (w := w) T o.type e E inf hu hi g xs.length cap arr hg ⟨b, off, none⟩ ys.length cap2 news (by rw [hsz]; exact hnl) hnews hone hroom hfit
        have htake : arr.toList.take (xs.length * inf.size) = olds := by rw [hsz, ← hxl, harr]; exact List.take_left
        rw [htake] at hr
        have hsr := setRow_heap w g arr (olds ++ news ++ arr.toList.drop (xs.length * inf.size + news.length)).toArray E (0, 0) hg
        have hoth : ∀ c, c ≠ g → (w.setRow g (olds ++ news ++ arr.toList.drop (xs.length * inf.size + news.length)).toArray).heap[c]? = w.heap[c]? := fun c hc => setRow_other w g c _ hc
        have hgf := hfree g (.inl hlg)
        have hcellg : ∀ oo, oo < xs.length * t.size → (w.setRow g (olds ++ news ++ arr.toList.drop (xs.length * inf.size + news.length)).toArray).cell? ⟨g, oo, none⟩ = w.cell? ⟨g, oo, none⟩ := by
          intro oo hoo
          rw [cell_of_row _ _ _ _ _ _ hsr, cell_of_row _ _ _ _ _ _ hg]
          rw [List.getElem?_toArray, ← Array.getElem?_toList, harr, List.append_assoc, List.getElem?_append_left (by omega), List.getElem?_append_left (by omega)]
        have h' := h.setFree g (w' := w.setRow g (olds ++ news ++ arr.toList.drop (xs.length * inf.size + news.length)).toArray) hgf.1 hgf.2.2.1 hgf.2.2.2 rfl rfl rfl (by simp) (fun c _ hc => hoth c hc) (fun oo hs => hcellg oo (hsS oo hs).2)
        refine fin (lab := fun c => labD c ∨ labS c) h' (hrun (by rw [hxv, hyv]; exact hr)) ?_ fun c hc => by simpa using hfree c hc
        refine laid_append (labD := fun c => labD c ∧ c ≠ g) hLD hL (fun c h1 h2 => hds c h1.1 h2) hsr (rest := arr.toList.drop (xs.length * inf.size + news.length)) (by simp) hroom hmax ?_ (.inl hlg) ?_ ?_ ?_
        · have e1 : arr.toList.length = arr.size := Array.length_toList
          simp only [List.size_toArray, List.length_append, List.length_drop]
          rw [e1, hasz, hxl, hnl, hsz]
          have : xs.length * t.size + ys.length * t.size ≤ cap * t.size := by rw [← Nat.add_mul]; exact Nat.mul_le_mul_right _ hroom
          omega
        · intro c hc
          rcases hc with ⟨h1, h2⟩ | h1
          · exact ⟨.inl h1, h2, hoth c h2⟩
          · have hne : c ≠ g := fun e => hds g hlg (e ▸ h1)
            exact ⟨.inr h1, hne, hoth c hne⟩
        · intro b' o' hs
          refine ⟨hs, ?_⟩
          by_cases hb' : b' = g
          · subst hb'; exact hcellg o' (hsS o' hs).2
          · exact World.cell?_of_block (w := w) (hoth b' hb')
        · intro oo hs
          have := hsS oo hs
          refine ⟨this.1, ?_⟩
          have : xs.length * t.size ≤ (xs.length + ys.length) * t.size := Nat.mul_le_mul_right _ (by omega)
          omega
      · have hb := hb47 (xs.length + ys.length) hgd
        have holds : ∀ j u, olds[j]? = some u → w.cell? ((⟨g, 0, none⟩ : Addr).add j) = some u := by
          intro j u hu
          have hj := (List.getElem?_eq_some_iff.1 hu).1
          rw [addr_add, Nat.zero_add, cell_of_row _ _ _ _ _ _ hg, ← Array.getElem?_toList, harr, List.getElem?_append_left hj]
          exact hu
        have hr := run_append_grow (P := P) w T o.type e inf z hu hi hz ⟨g, 0, none⟩ xs.length cap olds (by rw [hsz]; exact hxl) holds ⟨b, off, none⟩ ys.length cap2 news (by rw [hsz]; exact hnl) hnews (by omega) (by omega) (growslice_fits (by omega) hb)
        have hge := grownCap_ge w (xs.length + ys.length) cap e
        refine grown (olds := olds) (cap' := grownCap w (xs.length + ys.length) cap e) (old := cap) ?_ hge rfl (by rw [hxv, hyv]; exact hr)
        obtain ⟨l1, l2, vs, fps, l3, l4, l5⟩ := hLD
        exact ⟨l1, l2, vs, fps, l3, fun i j c hc => (l4 i j c hc).1, l5⟩

theorem op_append (h : Inv w0 G S a w) {c : Call} (ho : o.op = .call c) (hcc : c.callee = .builtin .append) {E : Env} (hT : E.tt.ok P = true) {ws : List W} (hv : (eff E o).val S = some ws)
    (hK : ∀ a' w' G', Inv w0 G' (S.puts ws) a' w' → K a' w') : o.wp P a w K Q := by
  unfold eff at hv
  rw [ho] at hv
  simp only [hcc] at hv
  split at hv
  case h_2 => cases hv
  rename_i d x y T T' hd hxy hTT
  have hargs := toList_two hxy
  split at hv
  case isFalse => cases hv
  rename_i hTe
  subst hTe
  have htys := toList_two hTT
  split at hv
  · cases hv
  rename_i t ht
  simp only [Rd.val_bind, Option.bind_eq_some_iff] at hv
  obtain ⟨ax, h1, ay, h2, vy, h3, hv⟩ := hv
  split at hv
  · cases hv
  rename_i cy
  simp only [Rd.val_bind, Option.bind_eq_some_iff] at hv
  obtain ⟨ys, h4, dp, h5, hv⟩ := hv
  have hrx := evalO_rep h h1
  have hcy : CRep G w cy (a.eval y) := avV_rep h3 (evalO_rep h h2)
  simp only [listOf, Rd.val_bind, Option.bind_eq_some_iff, Rd.val, Option.some.injEq] at h4
  obtain ⟨d0, h6, ys', h7, h8⟩ := h4
  have h8' := h8.symm
  subst h8'
  have h9 := D.asList_some h7
  subst h9
  -- the lists that are taken in
  let keys : List (Nat × Nat) := if t.flat then [] else ownKeys [cy]
  have hros : (if t.flat = true then [] else (ownKeys [cy]).map fun q => W.ro q.1 q.2) = keys.map fun q => W.ro q.1 q.2 := by
    simp only [keys]; split <;> rfl
  split at hv
  · -- onto nil
    simp only [Rd.val, Option.bind_eq_some_iff, Rd.val_bind, Option.some.injEq] at hv
    obtain ⟨_, hg, ws', h10, rfl⟩ := hv
    obtain ⟨hdO, rfl⟩ := fresh_val h10
    have hgd : ys.length ≤ 34359738368 := gd_some hg
    have hnk : nodupB (ownKeys [cy]) = true := by cases cy <;> rfl
    have hnk' : nodupB keys = true := by
      by_cases hff : t.flat = true
      · simp [keys, hff, nodupB]
      · simp only [keys, if_neg hff]; exact hnk
    -- for flat elements the source stays as it is, but what it reads by is held stable all the same
    by_cases hf : t.flat = true
    · have hY := src_laid h h6 hcy h5 (S' := fun x o => G.S x o ∨ AK G S (ownKeys [cy]) x o) (fun x o hs => hs)
      have hY' : ((∃ (ad : Option Addr) (cap : Nat), a.eval y = .slice ad 0 cap ∧ (ad = none → cap = 0)) ∧ ys = []) ∨ ∃ b off cap news, a.eval y = .slice (some ⟨b, off, none⟩) ys.length cap ∧ (∀ p u, news[p]? = some u → w.cell? ⟨b, off + p, none⟩ = some u) ∧ LaidC w G.S dp t ys news (fun _ => False) := by
        rcases hY with hY | ⟨b, off, cap, news, e1, e2, l1, l2, vs, fps, l3, l4, l5⟩
        · exact .inl hY
        · refine .inr ⟨b, off, cap, news, e1, e2, l1, l2, vs, fun _ _ _ => False, fun i x j d hx hd' => ⟨(l3 i x j d hx hd').1, ?_⟩, fun _ _ _ hh => hh.elim, fun _ _ _ _ _ hh => hh.elim⟩
          have hs := flat_scalar hf hd'
          exact ow_scalar hs (l3 i x j d hx hd').2
      refine append_core h ho hcc hargs htys hT ht hd hdO (xs := []) (deep := true) (m := true) (labD := fun _ => False) (labS := fun _ => False) (.inl ⟨hrx, rfl⟩) hY' (fun _ hh => hh.elim) (fun c hc => (hc.elim id id).elim) (by simpa using hgd) fun a' w' G' h' => hK a' w' G' ?_
      rw [hros]
      simp only [keys, hf, if_true]
      exact h'
    · have hk : keys = ownKeys [cy] := by simp only [keys]; rw [if_neg hf]
      obtain ⟨G1, h11, m11, e11, n11⟩ := Inv.toRos keys h hnk'
      have hY := src_laid h h6 hcy h5 (S' := G1.S) (fun x o hs => (m11.s x o).2 (by rw [hk]; exact hs))
      refine append_core h11 ho hcc hargs htys hT ht hd (n11 d hdO) (xs := []) (deep := true) (m := true) (labD := fun _ => False) (.inl ⟨hrx, rfl⟩) hY (fun _ hh => hh.elim) (fun c hc => ?_) (by simpa using hgd) fun a' w' G' h' => hK a' w' G' ?_
      · rcases hc with hc | ⟨_, k, j, rfl, how, t', xs', deep', m', hown⟩
        · exact hc.elim
        · have hlt := h.olt _ _ how
          refine ⟨hlt.1, hlt.2, fun i hb => ?_, fun k' j' t2 xs2 d2 m2 hb => ?_⟩
          · rw [m11.ow, how] at hb; cases hb
          · rw [m11.ow, how] at hb
            cases hb
            rw [e11, if_pos (by rw [hk]; simp [ownKeys]), hown]
            simp [O.toRo]
      · rw [hros, puts_append, puts_append]
        exact h'
  · -- onto a list of the call's own
    rename_i k j
    simp only [Rd.val] at hv
    split at hv
    case h_2 => cases hv
    rename_i t' xs deep m hown
    split at hv
    case isFalse => cases hv
    rename_i htt
    subst htt
    split at hv
    case isFalse => cases hv
    rename_i hnd
    simp only [Rd.val, Option.bind_eq_some_iff, Rd.val_bind, Option.some.injEq] at hv
    obtain ⟨_, hg, ws', h10, rfl⟩ := hv
    obtain ⟨hdO, rfl⟩ := fresh_val h10
    have hgd : xs.length + ys.length ≤ 34359738368 := gd_some hg
    obtain ⟨hkn, hnk⟩ := nodupB_cons hnd
    have hnk' : nodupB keys = true := by
      by_cases hff : t'.flat = true
      · simp [keys, hff, nodupB]
      · simp only [keys, if_neg hff]; exact hnk
    have hO := h.owns k j
    rw [hown] at hO
    have hO' : OwT w G.S deep m t' xs (G.ov k j) (fpOf G k j) := hO
    rw [← hrx.2.1] at hO'
    -- the old list's key is given up
    have h12 := h.updO k j .dead trivial
    have hdO1 : (S.setO k ((S.getO k).set j .dead)).getO d = [] := by
      rw [getO_setO]
      split
      · rename_i hkd
        rw [hkd.1, hdO]; rfl
      · exact hdO
    have hdead : oget ((S.setO k ((S.getO k).set j .dead)).getO k) j = .dead := by
      rw [getO_setO]
      split
      · rw [oget_set]; split
        · rfl
        · rename_i hkl hjl
          have : ¬ j < (S.getO k).length := fun hl => hjl ⟨rfl, hl⟩
          simp only [oget, List.getD_eq_getElem?_getD]
          rw [List.getElem?_eq_none (by omega)]; rfl
      · rename_i hkl
        have : ¬ k < S.owns.length := fun hl => hkl ⟨rfl, hl⟩
        have hg0 : S.getO k = [] := by
          simp only [St.getO, List.getD_eq_getElem?_getD]
          rw [List.getElem?_eq_none (by omega)]; rfl
        rw [hg0]; rfl
    have hsame : ∀ k' j', (k', j') ≠ (k, j) → oget ((S.setO k ((S.getO k).set j .dead)).getO k') j' = oget (S.getO k') j' := by
      intro k' j' hne
      rw [getO_setO]
      split
      · rename_i hkk
        rw [oget_set]
        split
        · rename_i hjj; exact absurd (by rw [hkk.1, hjj.1]) hne
        · rw [hkk.1]
      · rfl
    by_cases hf : t'.flat = true
    · have hY := src_laid h h6 hcy h5 (S' := fun x o => G.S x o ∨ AK G S (ownKeys [cy]) x o) (fun x o hs => hs)
      have hY' : ((∃ (ad : Option Addr) (cap : Nat), a.eval y = .slice ad 0 cap ∧ (ad = none → cap = 0)) ∧ ys = []) ∨ ∃ b off cap news, a.eval y = .slice (some ⟨b, off, none⟩) ys.length cap ∧ (∀ p u, news[p]? = some u → w.cell? ⟨b, off + p, none⟩ = some u) ∧ LaidC w G.S dp t' ys news (fun _ => False) := by
        rcases hY with hY | ⟨b, off, cap, news, e1, e2, l1, l2, vs, fps, l3, l4, l5⟩
        · exact .inl hY
        · refine .inr ⟨b, off, cap, news, e1, e2, l1, l2, vs, fun _ _ _ => False, fun i x j d hx hd' => ⟨(l3 i x j d hx hd').1, ?_⟩, fun _ _ _ hh => hh.elim, fun _ _ _ _ _ hh => hh.elim⟩
          have hs := flat_scalar hf hd'
          exact ow_scalar hs (l3 i x j d hx hd').2
      refine append_core h12 ho hcc hargs htys hT ht hd hdO1 (labD := fpOf G k j) (labS := fun _ => False) hO' hY' (fun _ _ hh => hh.elim) (fun c hc => ?_) hgd fun a' w' G' h' => hK a' w' G' ?_
      · rcases hc with hc | hc
        · have hlt := h.olt _ _ hc
          refine ⟨hlt.1, hlt.2, fun i hb => ?_, fun k' j' t2 xs2 d2 m2 hb => ?_⟩
          · rw [show G.ow c = _ from hc] at hb; cases hb
          · rw [show G.ow c = _ from hc] at hb
            cases hb
            rw [hdead]; simp
        · exact hc.elim
      · rw [hros]
        simp only [keys, hf, if_true]
        exact h'
    · have hk : keys = ownKeys [cy] := by simp only [keys]; rw [if_neg hf]
      obtain ⟨G1, h11, m11, e11, n11⟩ := Inv.toRos keys h12 hnk'
      have hAK : ∀ x o, AK G S (ownKeys [cy]) x o → AK G (S.setO k ((S.getO k).set j .dead)) keys x o := by
        rintro x o ⟨k', j', t2, xs2, d2, m2, hmem, hx, rest⟩
        exact ⟨k', j', t2, xs2, d2, m2, by rw [hk]; exact hmem, by rw [hsame k' j' fun e => hkn (e ▸ hmem)]; exact hx, rest⟩
      have hY := src_laid h h6 hcy h5 (S' := G1.S) (fun x o hs => (m11.s x o).2 (hs.imp id (hAK x o)))
      have hO1 : OwT w G1.S deep m t' xs (a.eval x) (fpOf G k j) := by
        refine OwT.move hO' (fun b o hs => ⟨(m11.s b o).2 (.inl hs), rfl⟩) (fun b hb => ⟨hb, rfl⟩) fun b len cap hv hb o hs => ?_
        rcases (m11.s b o).1 hs with hs | ⟨k', j', t2, xs2, d2, m2, hmem, hx, how, _⟩
        · exact .inl hs
        · have : G.ow b = some (.own k j) := hb
          rw [this] at how
          cases how
          rw [hdead] at hx
          cases hx
      refine append_core h11 ho hcc hargs htys hT ht hd (n11 d hdO1) (labD := fpOf G k j) hO1 hY (fun c hc hc' => ?_) (fun c hc => ?_) hgd fun a' w' G' h' => hK a' w' G' ?_
      · obtain ⟨_, k', j', rfl, how, _⟩ := hc'
        rw [show G.ow c = _ from hc] at how
        cases how
        exact hkn (by simp [ownKeys])
      · rcases hc with hc | ⟨_, k', j', rfl, how, t2, xs2, d2, m2, hown2⟩
        · have hlt := h.olt _ _ hc
          refine ⟨hlt.1, hlt.2, fun i hb => ?_, fun k' j' t2 xs2 d2 m2 hb => ?_⟩
          · rw [m11.ow, show G.ow c = _ from hc] at hb; cases hb
          · rw [m11.ow, show G.ow c = _ from hc] at hb
            cases hb
            rw [e11, hdead]
            split <;> simp [O.toRo]
        · have hlt := h.olt _ _ how
          refine ⟨hlt.1, hlt.2, fun i hb => ?_, fun k'' j'' t2 xs2 d2 m2 hb => ?_⟩
          · rw [m11.ow, how] at hb; cases hb
          · rw [m11.ow, how] at hb
            cases hb
            rw [e11, if_pos (by rw [hk]; simp [ownKeys])]
            rw [hsame k' j' fun e => hkn (by rw [← e]; simp [ownKeys]), hown2]
            simp [O.toRo]
      · rw [hros]
        show Inv w0 G' ((S.put (.upd k j .dead)).puts ((keys.map fun q => W.ro q.1 q.2) ++ [W.o d [O.own t' (xs ++ ys) (deep && dp) m]] ++ [W.t d (AV.v (V.one (C.own d 0)))])) a' w'
        rw [puts_append, puts_append]
        exact h'
  · cases hv
end ops
end Go.Abs
