import Derived.Test.YtgfjbogcidlaeaaGreatDoorS2
import Derived.Deep.AppendSrc
/- Operations: append, stores, slices, calls. -/
set_option linter.unusedSimpArgs false
set_option linter.unusedVariables false
namespace Go.Abs
open Go.RowKit
section ops
variable {P : Program} {w0 : Bs} {G : Gh} {S : St} {a : Act} {w : World} {o : Oper} {K : Act -> World -> Prop} {Q : Exit -> Act -> World -> Prop}
theorem fM {n : Nat} {u : Unit} (h : gd n = some u) : n <= 34359738368 := by
 unfold gd at h
 split at h
 ·assumption
 ·cases h
theorem OwT.weaken {S : Nat -> Nat -> Prop} {deep deep' m : Bool} {t : Ty} {xs : List t.den} {v : Value} {fp fp' : Nat -> Prop} (h : OwT w S deep m t xs v fp) (hd : deep' = true -> deep = true) (hf : ∀ c, fp c -> fp' c) : OwT w S deep' m t xs v fp' := by
 rcases h with h | ⟨b, cap, arr, E, vs, fps, rfl, hb, hcap, hmax, hsz, hfb, hc, hr, hfp, hdis, hs⟩
 ·exact .inl h
 ·exact .inr ⟨b, cap, arr, E, vs, fps, rfl, hb, hcap, hmax, hsz, hf _ hfb, hc, fun i x j d hx hd' => (hr i x j d hx hd').sub (fun _ hc => hc) hd, fun i j c hc => ⟨hf _ (hfp i j c hc).1, (hfp i j c hc).2⟩, hdis, hs⟩
theorem MQ {S S' : Nat -> Nat -> Prop} {dp : Bool} {d : D} {v : Value} {fp fp' : Nat -> Prop} (hs : ji d = none) (h : Ow w S dp d v fp) : Ow w S' dp d v fp' := by
 cases h with
 | int k n => exact .int k n _
 | bool b => exact .bool b _
 | str v => exact .str v _
 | nil t fp => cases hs
 | ro d v fp hd'' h'' => exact Di hs h''
 | list => cases hs
theorem ve (t tx ty e : TypeId) (i : TypeInfo) (ht : P.underlying t = some (.slice e)) (hi : P.info? e = some i) (base : Option Addr) (n cap : Nat) (hn : n <= cap) (x : Value) (hs : Src P i.size tx x 0 [] w) :
  (Builtin.append_ #[t, tx] ty #[.slice base n cap, x]).run P w = .ok (.slice base n cap) w := by
 rcases hs.kind with ⟨e', hk⟩ | hk <;> cases base <;> simp [Builtin.append_, run_underlying ht, run_underlying hk, sizeOf, typeInfo, hi, hs.len, hn, hs.cells, storeCells]
theorem run_append_room' (t tx ty e E : TypeId) (i : TypeInfo) (ht : P.underlying t = some (.slice e)) (hi : P.info? e = some i)
  (g sLen sCap : Nat) (cur : Array Value) (hg : w.heap[g]? = some (.cells cur E (0, 0)))
  (x : Value) (m : Nat) (news : List Value) (hs : Src P i.size tx x m news w)
  (hroom : sLen + m <= sCap) (hfit : sLen * i.size + news.length <= cur.size) :
  (Builtin.append_ #[t, tx] ty #[.slice (some ⟨g, 0, none⟩) sLen sCap, x]).run P w =
   .ok (.slice (some ⟨g, 0, none⟩) (sLen + m) sCap) (w.setRow g (cur.toList.take (sLen * i.size) ++ news ++ cur.toList.drop (sLen * i.size + news.length)).toArray) := by
 have hst := run_storeCells_at P g (sLen * i.size) E news 0 cur w hg (by simpa using hfit) hs.one
 simp only [Nat.add_zero] at hst
 rcases hs.kind with ⟨e', hk⟩ | hk <;> simp [Builtin.append_, run_underlying ht, run_underlying hk, sizeOf, typeInfo, hi, hs.len, hroom, hs.cells, Addr.add_lit, hst]
theorem src_of {T : TypeId} {TT0 : TT} (hT : TT0.ok P = true) {t : Ty} (ht : lk TT0.elem T = some t) {v : Value} {ys : List t.den} {S' : Nat -> Nat -> Prop} {dp : Bool} {labS : Nat -> Prop}
  (hY : ((∃ (ad : Option Addr) (cap : Nat), v = .slice ad 0 cap /\ (ad = none -> cap = 0)) /\ ys = []) \/ ∃ b off cap news, v = .slice (some ⟨b, off, none⟩) ys.length cap /\ (∀ p u, news[p]? = some u -> w.cell? ⟨b, off + p, none⟩ = some u) /\ jI w S' dp t ys news labS) :
  ∃ news, (∀ size, size = t.size -> Src P size T v ys.length news w) /\ jI w S' dp t ys news labS := by
 obtain ⟨e, inf, z, hu, hi, hsz, hby, hz, hzs, hzm⟩ := TT.gY hT ht
 rcases hY with ⟨⟨ad, cap, rfl, had⟩, rfl⟩ | ⟨b, off, cap, news, rfl, h2, h3⟩
 ·refine ⟨[], fun size _ => ?_, by simp, by simp, fun _ _ => undef, fun _ _ _ => False, fun i x j d hx => by simp at hx, fun _ _ _ hh => hh.elim, fun _ _ _ _ _ hh => hh.elim⟩
  cases ad with
  | none => rw [had rfl]; exact Src.ofNil w hu 0
  | some b => exact Src.ofSlice w hu b 0 cap [] (by simp) (by simp) (by simp)
 ·refine ⟨news, fun size hs => ?_, h3⟩
  subst hs
  exact Src.ofSlice w hu _ _ cap news h3.1 (fun j u hu => by rw [addr_add]; exact h2 j u hu) h3.2.1
theorem ig (h : Inv w0 G S a w) {c : Call} (ho : o.op = .call c) (hcc : c.callee = .builtin .append) {x y : Operand} {T TX : TypeId} (hargs : c.args = #[x, y]) (htys : c.argTypes = #[T, TX])
  {TT0 : TT} (hT : TT0.ok P = true) {t : Ty} (ht : lk TT0.elem T = some t) {d : Nat} (hd : o.dst = some d) (hdO : S.aC d = [])
  {xs ys : List t.den} {deep dp m : Bool} {labD labS : Nat -> Prop} (hD : OwT w G.S deep m t xs (a.eval x) labD)
  (hY : ∃ news, (∀ size, size = t.size -> Src P size TX (a.eval y) ys.length news w) /\ jI w G.S dp t ys news labS)
  (hds : ∀ c, labD c -> labS c -> False)
  (hfree : ∀ c, labD c \/ labS c -> w0.w.heap.size <= c /\ c < w.heap.size /\ (∀ i, G.ow c ≠ some (.box i)) /\ ∀ k' j' t xs deep m, G.ow c = some (.own k' j') -> (aU (S.aC k') j').fB ≠ .own t xs deep m)
  (hgd : xs.length + ys.length <= 34359738368)
  (hK : ∀ a' w' G', Inv w0 G' ((S.bM d [.own t (xs ++ ys) (deep && dp) m]).fU d (.v (.one (.own d 0)))) a' w' -> K a' w') : o.wp P a w K Q := by
 obtain ⟨e, inf, z, hu, hi, hsz, hby, hz, hzs, hzm⟩ := TT.gY hT ht
 have hrun : ∀ {v' w'}, (Builtin.append_ #[T, TX] o.type #[a.eval x, a.eval y]).run P w = .ok v' w' -> (execOp a.eval o).run P w = .ok (.value v') w' := by
  intro v' w' hr
  refine iJ ho hcc ?_
  simp [builtin, hargs, htys, hr]
 have hb47 : ∀ k, k <= 34359738368 -> k * inf.bytes <= 140737488355328 := fun k hk => by
  have := Nat.mul_le_mul hk hby
  omega
 have fin : ∀ {v' : Value} {w' : World} {lab : Nat -> Prop}, Inv w0 G S a w' -> (execOp a.eval o).run P w = .ok (.value v') w' -> OwT w' G.S (deep && dp) m t (xs ++ ys) v' lab ->
   (∀ c, lab c -> w0.w.heap.size <= c /\ c < w'.heap.size /\ (∀ i, G.ow c ≠ some (.box i)) /\ ∀ k' j' t xs deep m, G.ow c = some (.own k' j') -> (aU (S.aC k') j').fB ≠ .own t xs deep m) -> o.wp P a w K Q := by
  intro v' w' lab h' hr hO hl
  obtain ⟨G2, h7⟩ := h'.O5 d (v := v') lab hdO hl hO
  refine aJ hr (hK _ _ G2 ?_)
  rw [hd]
  exact h7
 have new_free : ∀ c, c = w.heap.size -> w0.w.heap.size <= c /\ (∀ i, G.ow c ≠ some (.box i)) /\ ∀ k' j' t xs deep m, G.ow c = some (.own k' j') -> (aU (S.aC k') j').fB ≠ .own t xs deep m := by
  rintro c rfl
  exact ⟨h.below.size, fun i hb => absurd (h.olt _ _ hb).2 (Nat.lt_irrefl _), fun k' j' _ _ _ _ hb => absurd (h.olt _ _ hb).2 (Nat.lt_irrefl _)⟩
 obtain ⟨news, hsrc0, hL⟩ := hY
 have hsrc := hsrc0 inf.size hsz
 have hnl := hL.1
 have hone := hL.2.1
 by_cases hy0 : ys.length = 0
 ·-- nothing is appended
  have hyn := List.eq_nil_of_length_eq_zero hy0
  subst hyn
  have hn0 : news = [] := List.eq_nil_of_length_eq_zero (by rw [hnl]; simp)
  subst hn0
  have hle : ∃ base n cap, a.eval x = .slice base n cap /\ n <= cap := by
   rcases hD with ⟨hx, _⟩ | ⟨g, cap, arr, E, vs, fps, hx, _, hcap, _⟩
   ·exact ⟨_, _, _, hx, Nat.le_refl _⟩
   ·exact ⟨_, _, _, hx, hcap⟩
  obtain ⟨base, n, cap, hx, hn⟩ := hle
  refine fin (v' := a.eval x) (lab := labD) h (hrun ?_) ?_ fun c hc => hfree c (.inl hc)
  ·rw [hx]; exact ve T TX o.type e inf hu hi base n cap hn _ hsrc
  ·rw [List.append_nil]; exact hD.weaken (fun e => (zI _ _ ▸ e).1) fun _ hc => hc
 ·have hm : ys.length ≠ 0 := hy0
  -- a grown row
  have grown : ∀ {olds : List Value} {cap' : Nat} {old : Nat}, jI w G.S deep t xs olds labD -> xs.length + ys.length <= cap' -> cap' = grownCap w (xs.length + ys.length) old e ->
    (Builtin.append_ #[T, TX] o.type #[a.eval x, a.eval y]).run P w = .ok (.slice (some ⟨w.heap.size, 0, none⟩) (xs.length + ys.length) cap')
     (w.drew.alloc (.cells (olds.toArray ++ news.toArray ++ Builtin.zeroCells z.cells (cap' - (xs.length + ys.length))) e)) -> o.wp P a w K Q := by
   intro olds cap' old hLD hle hcap' hr
   have hbel : Below w.heap.size w (w.drew.alloc (.cells (olds.toArray ++ news.toArray ++ Builtin.zeroCells z.cells (cap' - (xs.length + ys.length))) e)) := ((Below.refl _ _).drew).alloc (by simp) _
   have hnew := heap_alloc_new w.drew (.cells (olds.toArray ++ news.toArray ++ Builtin.zeroCells z.cells (cap' - (xs.length + ys.length))) e)
   refine fin (lab := fun c => c = w.heap.size \/ labD c \/ labS c) (h.grow hbel) (hrun hr) ?_ ?_
   ·refine ER hLD hL hds hnew (rest := (Builtin.zeroCells z.cells (cap' - (xs.length + ys.length))).toList) ?_ hle ?_ ?_ (.inl rfl) ?_ ?_ ?_
    ·simp
    ·rw [hcap']; exact grownCap_le_maxLen w _ _ _ (by unfold maxLen; omega)
    ·simp only [Array.size_append, List.size_toArray, size_zeroCells, hzs, hLD.1, hnl, <- Nat.add_mul]
     congr 1; omega
    ·intro c hc
     have := (hfree c hc).2.1
     exact ⟨.inr hc, Nat.ne_of_lt this, hbel.block c this⟩
    ·intro b' o' hs
     exact ⟨hs, hbel.cell (p := ⟨b', o', none⟩) (h.sok b' o' hs).1⟩
    ·intro oo hs
     exact absurd (h.sok _ oo hs).1 (Nat.lt_irrefl _)
   ·intro c hc
    rcases hc with hc | hc
    ·obtain ⟨n1, n2, n3⟩ := new_free c hc
     exact ⟨n1, by subst hc; simp, n2, n3⟩
    ·obtain ⟨n1, n2, n3, n4⟩ := hfree c hc
     exact ⟨n1, by simp; omega, n3, n4⟩
  rcases hD.laid with ⟨hxv, rfl⟩ | ⟨g, cap, arr, E, rest, olds, hxv, hg, hcap, hmax, hasz, hlg, harr, hLD, hsS⟩
  ·have hb := hb47 ys.length (by omega)
   have hr := run_append_grow_src (P := P) w T TX o.type e inf z hu hi hz none 0 0 [] (run_firstCells_none w.drew inf.size 0 0 0) _ ys.length news hsrc (by omega) (by omega) (growslice_fits (by omega) (by simpa using hb))
   have hge := grownCap_ge w ys.length 0 e
   refine grown (olds := []) (cap' := grownCap w ys.length 0 e) (old := 0) ⟨by simp, by simp, fun _ _ => undef, fun _ _ _ => False, fun i x j d hx => by simp at hx, fun _ _ _ hh => hh.elim, fun _ _ _ _ _ hh => hh.elim⟩ (by simpa using hge) (by simp) ?_
   rw [hxv]
   simpa using hr
  ·have hxl : olds.length = xs.length * t.size := hLD.1
   by_cases hroom : xs.length + ys.length <= cap
   ·-- in place
    have hfit : xs.length * inf.size + news.length <= arr.size := by rw [hsz, hnl, <- Nat.add_mul, hasz]; exact Nat.mul_le_mul_right _ hroom
    have hr := run_append_room' (P := P) (w := w) T TX o.type e E inf hu hi g xs.length cap arr hg _ ys.length news hsrc hroom hfit
    have htake : arr.toList.take (xs.length * inf.size) = olds := by rw [hsz, <- hxl, harr]; exact List.take_left
    rw [htake] at hr
    have hsr := setRow_heap w g arr (olds ++ news ++ arr.toList.drop (xs.length * inf.size + news.length)).toArray E (0, 0) hg
    have hoth : ∀ c, c ≠ g -> (w.setRow g (olds ++ news ++ arr.toList.drop (xs.length * inf.size + news.length)).toArray).heap[c]? = w.heap[c]? := fun c hc => setRow_other w g c _ hc
    have hgf := hfree g (.inl hlg)
    have hcellg : ∀ oo, oo < xs.length * t.size -> (w.setRow g (olds ++ news ++ arr.toList.drop (xs.length * inf.size + news.length)).toArray).cell? ⟨g, oo, none⟩ = w.cell? ⟨g, oo, none⟩ := by
     intro oo hoo
     rw [cell_of_row _ _ _ _ _ _ hsr, cell_of_row _ _ _ _ _ _ hg]
     rw [List.getElem?_toArray, <- Array.getElem?_toList, harr, List.append_assoc, List.getElem?_append_left (by omega), List.getElem?_append_left (by omega)]
    have h' := h.VG g (w' := w.setRow g (olds ++ news ++ arr.toList.drop (xs.length * inf.size + news.length)).toArray) hgf.1 hgf.2.2.1 hgf.2.2.2 rfl rfl rfl (by simp) (fun c _ hc => hoth c hc) (fun oo hs => hcellg oo (hsS oo hs).2)
    refine fin (lab := fun c => labD c \/ labS c) h' (hrun (by rw [hxv]; exact hr)) ?_ fun c hc => by simpa using hfree c hc
    refine ER (labD := fun c => labD c /\ c ≠ g) hLD hL (fun c h1 h2 => hds c h1.1 h2) hsr (rest := arr.toList.drop (xs.length * inf.size + news.length)) (by simp) hroom hmax ?_ (.inl hlg) ?_ ?_ ?_
    ·have e1 : arr.toList.length = arr.size := Array.length_toList
     simp only [List.size_toArray, List.length_append, List.length_drop]
     rw [e1, hasz, hxl, hnl, hsz]
     have : xs.length * t.size + ys.length * t.size <= cap * t.size := by rw [<- Nat.add_mul]; exact Nat.mul_le_mul_right _ hroom
     omega
    ·intro c hc
     rcases hc with ⟨h1, h2⟩ | h1
     ·exact ⟨.inl h1, h2, hoth c h2⟩
     ·have hne : c ≠ g := fun e => hds g hlg (e ▸ h1)
      exact ⟨.inr h1, hne, hoth c hne⟩
    ·intro b' o' hs
     refine ⟨hs, ?_⟩
     by_cases hb' : b' = g
     ·subst hb'; exact hcellg o' (hsS o' hs).2
     ·exact World.cell?_of_block (w := w) (hoth b' hb')
    ·intro oo hs
     have := hsS oo hs
     refine ⟨this.1, ?_⟩
     have : xs.length * t.size <= (xs.length + ys.length) * t.size := Nat.mul_le_mul_right _ (by omega)
     omega
   ·have hb := hb47 (xs.length + ys.length) hgd
    have holds : ∀ j u, olds[j]? = some u -> w.cell? ((⟨g, 0, none⟩ : Addr).add j) = some u := by
     intro j u hu
     have hj := (zC.1 hu).1
     rw [addr_add, Nat.zero_add, cell_of_row _ _ _ _ _ _ hg, <- Array.getElem?_toList, harr, List.getElem?_append_left hj]
     exact hu
    have hr := run_append_grow_src (P := P) w T TX o.type e inf z hu hi hz (some ⟨g, 0, none⟩) xs.length cap olds (run_firstCells_some w.drew inf.size xs.length ⟨g, 0, none⟩ xs.length cap olds (by rw [hsz]; exact hxl) (by simpa using holds)) _ ys.length news hsrc (by omega) (by omega) (growslice_fits (by omega) hb)
    have hge := grownCap_ge w (xs.length + ys.length) cap e
    refine grown (olds := olds) (cap' := grownCap w (xs.length + ys.length) cap e) (old := cap) ?_ hge rfl (by rw [hxv]; simpa using hr)
    obtain ⟨l1, l2, vs, fps, l3, l4, l5⟩ := hLD
    exact ⟨l1, l2, vs, fps, l3, fun i j c hc => (l4 i j c hc).1, l5⟩
theorem jS {S : St} {k j d : Nat} {x : O} (hdO : S.aC d = []) : (S.bM k ((S.aC k).set j x)).aC d = [] := by
 rw [aY]
 split
 ·rename_i hkd
  rw [hkd.1, hdO]; rfl
 ·exact hdO
theorem yg {S : St} {k j : Nat} : aU ((S.bM k ((S.aC k).set j .dead)).aC k) j = .dead := by
 rw [aY]
 split
 ·rw [fJ]; split
  ·rfl
  ·rename_i hkl hjl
   have : ¬ j < (S.aC k).length := fun hl => hjl ⟨rfl, hl⟩
   simp only [aU, zE]
   rw [zJ (by omega)]; rfl
 ·rename_i hkl
  have : ¬ k < S.owns.length := fun hl => hkl ⟨rfl, hl⟩
  have hg0 : S.aC k = [] := by
   simp only [St.aC, zE]
   rw [zJ (by omega)]; rfl
  rw [hg0]; rfl
theorem OZ {S : St} {k j k' j' : Nat} : aU ((S.bM k ((S.aC k).set j .dead)).aC k') j' = .dead \/ aU ((S.bM k ((S.aC k).set j .dead)).aC k') j' = aU (S.aC k') j' := by
 rw [aY]
 split
 ·rename_i hkk
  rw [fJ]
  split
  ·exact .inl rfl
  ·rw [hkk.1]; exact .inr rfl
 ·exact .inr rfl
theorem Zd {w' : World} {S' : Nat -> Nat -> Prop} {t : Ty} {xs : List t.den} {v : Value} {fp fp' : Nat -> Prop} (h : Ow w' (fun _ _ => False) true (.list t xs) v fp) (hf : ∀ c, fp c -> fp' c) (hS : ∀ b o, S' b o -> ¬ fp b) : OwT w' S' true true t xs v fp' := by
 generalize hdd : D.list t xs = dd at h
 cases h with
 | int => cases hdd
 | bool => cases hdd
 | str => cases hdd
 | nil t' => cases hdd; exact .inl ⟨rfl, rfl⟩
 | ro _ _ _ hd => cases hd
 | list t' xs' b cap arr E vs fps _ hb hcap hmax hsz hfb hc hr hfp hdis =>
  cases hdd
  exact .inr ⟨b, cap, arr, E, vs, fps, rfl, hb, hcap, hmax, hsz, hf _ hfb, hc, fun i x j d hx hd => (hr i x j d hx hd).move (fun _ _ h => h.elim) fun _ _ => rfl, fun i j c hcf => ⟨hf _ (hfp i j c hcf).1, (hfp i j c hcf).2⟩, hdis, fun o hs => absurd hfb (hS b o hs)⟩
theorem qB.pO {G : Gh} {w : World} {k j : Nat} {x : O} (h : qB G w k j x) {t : Ty} {xs : List t.den} {deep m : Bool} (e : x.pO = .own t xs deep m) : OwT w G.S deep m t xs (G.ov k j) (eH G k j) := by
 cases x with
 | own t' xs' deep' m' => cases e; exact h
 | tree t' xs' =>
  cases e
  obtain ⟨fp, h1, h2, h3⟩ := h
  exact Zd h2 h1 h3
 | _ => cases e
theorem KT (h : Inv w0 G S a w) {c : Call} (ho : o.op = .call c) (hcc : c.callee = .builtin .append) {x y : Operand} {T TX : TypeId} (hargs : c.args = #[x, y]) (htys : c.argTypes = #[T, TX])
  {TT0 : TT} (hT : TT0.ok P = true) {t : Ty} (ht : lk TT0.elem T = some t) (ht' : lk TT0.elem TX = some t) {d : Nat} (hd : o.dst = some d) {ax : AV} {k1 : Nat} (hrx : iE G w ax (a.eval x)) (hry : iE G w (.seg k1) (a.eval y))
  {ws : List W} (hv : (YH d t ax k1).val S = some ws) (hK : ∀ a' w' G', Inv w0 G' (S.puts ws) a' w' -> K a' w') : o.wp P a w K Q := by
 simp only [YH, Rd.val] at hv
 split at hv
 case h_2 => cases hv
 rename_i t1 ys hseg
 split at hv
 case isFalse => cases hv
 rename_i h1
 subst h1
 have hO := h.owns k1 0
 rw [hseg] at hO
 have hO1 : vK w G.S t1 ys (G.ov k1 0) (eH G k1 0) := hO
 have hY : ∃ news, (∀ size, size = t1.size -> Src P size TX (a.eval y) ys.length news w) /\ jI w G.S true t1 ys news (eH G k1 0) := by
  refine src_of hT ht' ?_
  rw [hry.2]
  rcases hO1 with h2 | ⟨b, off, cap, news, e, h2, h3⟩
  ·exact .inl h2
  ·exact .inr ⟨b, off, cap, news, e, fun p u hu => (h2 p u hu).1, h3⟩
 split at hv
 ·-- onto nil
  simp only [Rd.val, zB, Rd.ak, zD] at hv
  obtain ⟨_, hg, ws', h10, rfl⟩ := hv
  obtain ⟨hdO, rfl⟩ := eG h10
  have h12 := h.AB k1 0 .dead trivial
  refine ig h12 ho hcc hargs htys hT ht hd (jS hdO) (xs := []) (deep := true) (m := true) (labD := fun _ => False) (.inl ⟨hrx, rfl⟩) hY (fun _ hh => hh.elim) (fun c hc => ?_) (by simpa using fM hg) fun a' w' G' h' => hK a' w' G' ?_
  ·rcases hc with hc | hc
   ·exact hc.elim
   ·have hlt := h.kz hc
    refine ⟨hlt.1, hlt.2, fun i hb => ?_, fun k' j' t2 xs2 d2 m2 hb => ?_⟩
    ·rw [show G.ow c = _ from hc] at hb; cases hb
    ·rw [show G.ow c = _ from hc] at hb
     cases hb
     rw [yg]; simp [O.fB]
  ·exact h'
 ·-- onto a list of the call's own
  rename_i k j
  simp only [Rd.val] at hv
  split at hv
  case h_2 => cases hv
  rename_i t' xs deep m hown
  split at hv
  case isFalse => cases hv
  rename_i htt
  subst htt
  simp only [Rd.val, zB, Rd.ak, zD] at hv
  obtain ⟨_, hg, ws', h10, rfl⟩ := hv
  obtain ⟨hdO, rfl⟩ := eG h10
  have hO := h.owns k j
  rw [hown] at hO
  have hO' : OwT w G.S deep m t' xs (G.ov k j) (eH G k j) := hO
  rw [<- hrx.2.1] at hO'
  have h12 := (h.AB k j .dead trivial).AB k1 0 .dead trivial
  have hdp : (deep && true) = deep := by simp
  have hdk : aU (((S.bM k ((S.aC k).set j .dead)).bM k1 (((S.bM k ((S.aC k).set j .dead)).aC k1).set 0 .dead)).aC k) j = .dead := by
   rcases OZ (S := S.bM k ((S.aC k).set j .dead)) (k := k1) (j := 0) (k' := k) (j' := j) with e | e
   ·exact e
   ·rw [e]; exact yg
  refine ig h12 ho hcc hargs htys hT ht hd (jS (jS hdO)) (labD := eH G k j) hO' hY (fun c hc hc' => ?_) (fun c hc => ?_) (fM hg) fun a' w' G' h' => hK a' w' G' ?_
  ·have e1 : G.ow c = some (.own k j) := hc
   have e2 : G.ow c = some (.own k1 0) := hc'
   rw [e1] at e2
   cases e2
   rw [hown] at hseg
   cases hseg
  ·rcases hc with hc | hc
   ·have hlt := h.kz hc
    refine ⟨hlt.1, hlt.2, fun i hb => ?_, fun k' j' t2 xs2 d2 m2 hb => ?_⟩
    ·rw [show G.ow c = _ from hc] at hb; cases hb
    ·rw [show G.ow c = _ from hc] at hb
     cases hb
     rw [hdk]; simp [O.fB]
   ·have hlt := h.kz hc
    refine ⟨hlt.1, hlt.2, fun i hb => ?_, fun k' j' t2 xs2 d2 m2 hb => ?_⟩
    ·rw [show G.ow c = _ from hc] at hb; cases hb
    ·rw [show G.ow c = _ from hc] at hb
     cases hb
     rw [yg]; simp [O.fB]
  ·rw [hdp] at h'
   exact h'
 ·cases hv
theorem OwT.aaM {S : Nat -> Nat -> Prop} {deep : Bool} {t : Ty} {xs : List t.den} {v v' : Value} {n : Nat} {fp : Nat -> Prop} (h : OwT w S deep true t xs v fp)
  (hv : (v' = .slice none 0 0 /\ n = 0 /\ v = .slice none 0 0) \/ ∃ b len cap, v = .slice (some ⟨b, 0, none⟩) len cap /\ n <= len /\ v' = .slice (some ⟨b, 0, none⟩) n cap) : OwT w S deep true t (xs.take n) v' fp := by
 rcases h with ⟨e, rfl⟩ | ⟨b, cap, arr, E, vs, fps, e1, e2, e3, e4, e5, e6, e7, e8, e9, e10, e11⟩
 ·rcases hv with ⟨e1, _, _⟩ | ⟨b, len, cap, e1, _⟩
  ·exact .inl ⟨e1, by simp⟩
  ·rw [e] at e1; cases e1
 ·rcases hv with ⟨_, _, q⟩ | ⟨b', len, cap', q1, q2, q3⟩
  ·rw [e1] at q; cases q
  ·rw [e1] at q1
   cases q1
   have hl : (xs.take n).length = n := by rw [List.length_take]; omega
   refine .inr ⟨b, cap, arr, E, vs, fps, by rw [hl]; exact q3, e2, by omega, e4, e5, e6, fun i x j d hx => e7 i x j d ?_, fun i x j d hx => e8 i x j d ?_, e9, e10, fun o hs => ?_⟩
   ·rw [List.getElem?_take] at hx; split at hx <;> simp_all
   ·rw [List.getElem?_take] at hx; split at hx <;> simp_all
   ·exact absurd (e11 o hs).1 (by simp)
theorem J5 (h : Inv w0 G S a w) {c : Call} (ho : o.op = .call c) (hcc : c.callee = .builtin .append) {x y : Operand} {T : TypeId} (hargs : c.args = #[x, y]) (htys : c.argTypes = #[T, T])
  {TT0 : TT} (hT : TT0.ok P = true) {t' : Ty} (ht : lk TT0.elem T = some t') {d : Nat} (hd : o.dst = some d) (hdO : S.aC d = []) {k j : Nat} {xs ys : List t'.den} {deep m dp : Bool}
  (hO' : OwT w G.S deep m t' xs (a.eval x) (eH G k j)) {cy : C} (hcy : kY G w cy (a.eval y)) (h6 : (cD (some t') cy).val S = some (.list t' ys)) (h5 : (if t'.flat = true then Rd.ret true else y9 cy).val S = some dp)
  (hnd : nodupB ((k, j) :: aI [cy]) = true) (hgd : xs.length + ys.length <= 34359738368)
  (hK : ∀ a' w' G', Inv w0 G' (S.puts (.upd k j .dead :: (if t'.flat = true then [] else (aI [cy]).map fun q => W.ro q.1 q.2) ++ [.o d [.own t' (xs ++ ys) (deep && dp) m]] ++ [.t d (.v (.one (.own d 0)))])) a' w' -> K a' w') : o.wp P a w K Q := by
 let keys : List (Nat × Nat) := if t'.flat then [] else aI [cy]
 have hros : (if t'.flat = true then [] else (aI [cy]).map fun q => W.ro q.1 q.2) = keys.map fun q => W.ro q.1 q.2 := by
  simp only [keys]; split <;> rfl
 obtain ⟨hkn, hnk⟩ := jr hnd
 have hnk' : nodupB keys = true := by
  by_cases hff : t'.flat = true
  ·simp [keys, hff, nodupB]
  ·simp only [keys, if_neg hff]; exact hnk
 -- the old list's key is given up
 have h12 := h.AB k j .dead trivial
 have hdO1 : (S.bM k ((S.aC k).set j .dead)).aC d = [] := by
  rw [aY]
  split
  ·rename_i hkd
   rw [hkd.1, hdO]; rfl
  ·exact hdO
 have hdead : aU ((S.bM k ((S.aC k).set j .dead)).aC k) j = .dead := by
  rw [aY]
  split
  ·rw [fJ]; split
   ·rfl
   ·rename_i hkl hjl
    have : ¬ j < (S.aC k).length := fun hl => hjl ⟨rfl, hl⟩
    simp only [aU, zE]
    rw [zJ (by omega)]; rfl
  ·rename_i hkl
   have : ¬ k < S.owns.length := fun hl => hkl ⟨rfl, hl⟩
   have hg0 : S.aC k = [] := by
    simp only [St.aC, zE]
    rw [zJ (by omega)]; rfl
   rw [hg0]; rfl
 have hsame : ∀ k' j', (k', j') ≠ (k, j) -> aU ((S.bM k ((S.aC k).set j .dead)).aC k') j' = aU (S.aC k') j' := by
  intro k' j' hne
  rw [aY]
  split
  ·rename_i hkk
   rw [fJ]
   split
   ·rename_i hjj; exact absurd (by rw [hkk.1, hjj.1]) hne
   ·rw [hkk.1]
  ·rfl
 by_cases hf : t'.flat = true
 ·have hY := AY h h6 hcy h5 (S' := fun x o => G.S x o \/ AK G S (aI [cy]) x o) (fun x o hs => hs)
  have hY' : ((∃ (ad : Option Addr) (cap : Nat), a.eval y = .slice ad 0 cap /\ (ad = none -> cap = 0)) /\ ys = []) \/ ∃ b off cap news, a.eval y = .slice (some ⟨b, off, none⟩) ys.length cap /\ (∀ p u, news[p]? = some u -> w.cell? ⟨b, off + p, none⟩ = some u) /\ jI w G.S dp t' ys news (fun _ => False) := by
   rcases hY with hY | ⟨b, off, cap, news, e1, e2, l1, l2, vs, fps, l3, l4, l5⟩
   ·exact .inl hY
   ·refine .inr ⟨b, off, cap, news, e1, e2, l1, l2, vs, fun _ _ _ => False, fun i x j d hx hd' => ⟨(l3 i x j d hx hd').1, ?_⟩, fun _ _ _ hh => hh.elim, fun _ _ _ _ _ hh => hh.elim⟩
    have hs := qx hf hd'
    exact MQ hs (l3 i x j d hx hd').2
  refine ig h12 ho hcc hargs htys hT ht hd hdO1 (labD := eH G k j) (labS := fun _ => False) hO' (src_of hT ht hY') (fun _ _ hh => hh.elim) (fun c hc => ?_) hgd fun a' w' G' h' => hK a' w' G' ?_
  ·rcases hc with hc | hc
   ·have hlt := h.kz hc
    refine ⟨hlt.1, hlt.2, fun i hb => ?_, fun k' j' t2 xs2 d2 m2 hb => ?_⟩
    ·rw [show G.ow c = _ from hc] at hb; cases hb
    ·rw [show G.ow c = _ from hc] at hb
     cases hb
     rw [hdead]; simp [O.fB]
   ·exact hc.elim
  ·rw [hros]
   simp only [keys, hf, if_true]
   exact h'
 ·have hk : keys = aI [cy] := by simp only [keys]; rw [if_neg hf]
  obtain ⟨G1, h11, m11, e11, n11⟩ := Inv.Qk keys h12 hnk'
  have hAK : ∀ x o, AK G S (aI [cy]) x o -> AK G (S.bM k ((S.aC k).set j .dead)) keys x o := by
   rintro x o ⟨k', j', t2, xs2, d2, m2, hmem, hx, rest⟩
   exact ⟨k', j', t2, xs2, d2, m2, by rw [hk]; exact hmem, by rw [hsame k' j' fun e => hkn (e ▸ hmem)]; exact hx, rest⟩
  have hY := AY h h6 hcy h5 (S' := G1.S) (fun x o hs => (m11.s x o).2 (hs.imp id (hAK x o)))
  have hO1 : OwT w G1.S deep m t' xs (a.eval x) (eH G k j) := by
   refine OwT.move hO' (fun b o hs => ⟨(m11.s b o).2 (.inl hs), rfl⟩) (fun b hb => ⟨hb, rfl⟩) fun b len cap hv hb o hs => ?_
   rcases (m11.s b o).1 hs with hs | ⟨k', j', t2, xs2, d2, m2, hmem, hx, how, _⟩
   ·exact .inl hs
   ·have : G.ow b = some (.own k j) := hb
    rw [this] at how
    cases how
    rw [hdead] at hx
    cases hx
  refine ig h11 ho hcc hargs htys hT ht hd (n11 d hdO1) (labD := eH G k j) hO1 (src_of hT ht hY) (fun c hc hc' => ?_) (fun c hc => ?_) hgd fun a' w' G' h' => hK a' w' G' ?_
  ·obtain ⟨_, k', j', rfl, how, _⟩ := hc'
   rw [show G.ow c = _ from hc] at how
   cases how
   exact hkn (by simp [aI])
  ·rcases hc with hc | ⟨_, k', j', rfl, how, t2, xs2, d2, m2, hown2⟩
   ·have hlt := h.kz hc
    refine ⟨hlt.1, hlt.2, fun i hb => ?_, fun k' j' t2 xs2 d2 m2 hb => ?_⟩
    ·rw [m11.ow, show G.ow c = _ from hc] at hb; cases hb
    ·rw [m11.ow, show G.ow c = _ from hc] at hb
     cases hb
     rw [e11, hdead]
     split <;> simp [O.yG, O.fB]
   ·have hlt := h.kz how
    refine ⟨hlt.1, hlt.2, fun i hb => ?_, fun k'' j'' t2 xs2 d2 m2 hb => ?_⟩
    ·rw [m11.ow, how] at hb; cases hb
    ·rw [m11.ow, how] at hb
     cases hb
     rw [e11, if_pos (by rw [hk]; simp [aI])]
     rw [hsame k' j' fun e => hkn (by rw [<- e]; simp [aI])]
     exact O.Gy hown2 _ _ _ _
  ·rw [hros]
   show Inv w0 G' ((S.put (.upd k j .dead)).puts ((keys.map fun q => W.ro q.1 q.2) ++ [W.o d [O.own t' (xs ++ ys) (deep && dp) m]] ++ [W.t d (AV.v (V.one (C.own d 0)))])) a' w'
   rw [dM, dM]
   exact h'
theorem Kt {t : Ty} {ys : List t.den} {v : Value} {S' : Nat -> Nat -> Prop} (hf : t.flat = true) (hrep : Rep w S' (.list t ys) v) :
  ((∃ (ad : Option Addr) (cap : Nat), v = .slice ad 0 cap /\ (ad = none -> cap = 0)) /\ ys = []) \/ ∃ b off cap news, v = .slice (some ⟨b, off, none⟩) ys.length cap /\ (∀ p u, news[p]? = some u -> w.cell? ⟨b, off + p, none⟩ = some u) /\
   ∀ (S2 : Nat -> Nat -> Prop), jI w S2 true t ys news (fun _ => False) := by
 generalize hdd : D.list t ys = dd at hrep
 cases hrep with
 | int => cases hdd
 | bool => cases hdd
 | str => cases hdd
 | nil t' => cases hdd; exact .inl ⟨⟨none, 0, rfl, fun _ => rfl⟩, rfl⟩
 | emp t' ad cap => cases hdd; exact .inl ⟨⟨some ad, cap, rfl, fun hh => (by cases hh)⟩, rfl⟩
 | list t' xs' b off cap vs hcap hcc hr =>
  cases hdd
  have hnews : ∀ (p : Nat) (u : Value), ((List.range (ys.length * t.size)).map fun p => vs (p / t.size) (p % t.size))[p]? = some u -> p < ys.length * t.size /\ u = vs (p / t.size) (p % t.size) := by
   intro p u hu
   simp only [List.getElem?_map, Option.map_eq_some_iff] at hu
   obtain ⟨q, hq, rfl⟩ := hu
   have hlt : p < ys.length * t.size := by have := (zC.1 hq).1; simpa using this
   have : q = p := by simp [hlt] at hq; exact hq.symm
   rw [this]; exact ⟨hlt, rfl⟩
  have hget : ∀ (i j : Nat), i < ys.length -> j < t.size -> ((List.range (ys.length * t.size)).map fun p => vs (p / t.size) (p % t.size))[i * t.size + j]? = some (vs i j) := by
   intro i j hi hj
   have hlt := rQ hi hj
   have e1 : (i * t.size + j) / t.size = i := by rw [Nat.mul_comm, Nat.mul_add_div t.size_pos, Nat.div_eq_of_lt hj]; omega
   have e2 : (i * t.size + j) % t.size = j := by rw [Nat.mul_comm, Nat.mul_add_mod, Nat.mod_eq_of_lt hj]
   simp [hlt, e1, e2]
  refine .inr ⟨b, off, cap, (List.range (ys.length * t.size)).map fun p => vs (p / t.size) (p % t.size), rfl, ?_, fun S2 => ⟨by simp, ?_, ?_⟩⟩
  ·intro p u hu
   obtain ⟨hlt, rfl⟩ := hnews p u hu
   obtain ⟨x, d, hx, hd'⟩ := CP (t := t) (xs := ys) hlt
   have := (hcc _ _ _ _ hx hd').1
   rw [<- vX (n := t.size)] at this
   exact this
  ·intro u hu
   obtain ⟨p, he⟩ := List.mem_iff_getElem?.1 hu
   obtain ⟨hlt, rfl⟩ := hnews p u he
   obtain ⟨x, d, hx, hd'⟩ := CP (t := t) (xs := ys) hlt
   exact (hr _ _ _ _ hx hd').one
  ·exact ⟨vs, fun _ _ _ => False, fun i x j d hx hd' => ⟨hget i j (zC.1 hx).1 (by have := (zC.1 hd').1; rwa [Ty.aQ] at this), Di (qx hf hd') (hr _ _ _ _ hx hd')⟩, fun _ _ _ hh => hh.elim, fun _ _ _ _ _ hh => hh.elim⟩
theorem KR (h : Inv w0 G S a w) {c : Call} (ho : o.op = .call c) (hcc : c.callee = .builtin .append) {x y : Operand} {T TX : TypeId} (hargs : c.args = #[x, y]) (htys : c.argTypes = #[T, TX])
  {TT0 : TT} (hT : TT0.ok P = true) {t : Ty} (ht : lk TT0.elem T = some t) (ht' : lk TT0.elem TX = some t) {d : Nat} (hd : o.dst = some d) {ax : AV} {t1 : Ty} {k1 j1 m1 : Nat} (hrx : iE G w ax (a.eval x)) (hry : iE G w (.suf t1 k1 j1 m1) (a.eval y))
  {ws : List W} (hv : (Yx d t ax t1 k1 j1 m1).val S = some ws) (hK : ∀ a' w' G', Inv w0 G' (S.puts ws) a' w' -> K a' w') : o.wp P a w K Q := by
 simp only [Yx, Rd.val] at hv
 split at hv
 case h_2 => cases hv
 rename_i t2 ys dp2 mm2 hsuf
 split at hv
 case isFalse => cases hv
 rename_i h1
 subst h1
 split at hv
 case isFalse => cases hv
 rename_i h2
 obtain ⟨rfl, hf⟩ := h2
 split at hv
 case h_2 => cases hv
 rename_i k j
 simp only [Rd.val] at hv
 split at hv
 case h_2 => cases hv
 rename_i t' xs deep m hown
 split at hv
 case isFalse => cases hv
 rename_i htt
 subst htt
 split at hv
 case isFalse => cases hv
 rename_i hnd
 simp only [Rd.val, zB, Rd.ak, zD] at hv
 obtain ⟨_, hg, ws', h10, rfl⟩ := hv
 obtain ⟨hdO, rfl⟩ := eG h10
 have hrep := hry.2 _ _ _ (h.BA hsuf [(k1, j1)] (by simp))
 have hY : ∃ news, (∀ size, size = t'.size -> Src P size TX (a.eval y) (ys.drop m1).length news w) /\ jI w G.S true t' (ys.drop m1) news (fun _ => False) := by
  refine src_of hT ht' ?_
  rcases Kt hf hrep with hY | ⟨b, off, cap, news, e1, e2, l1⟩
  ·exact .inl hY
  ·exact .inr ⟨b, off, cap, news, e1, e2, l1 _⟩
 have hO := h.owns k j
 rw [hown] at hO
 have hO' : OwT w G.S deep m t' xs (G.ov k j) (eH G k j) := hO
 rw [<- hrx.2.1] at hO'
 have h12 := h.AB k j .dead trivial
 have hdO1 : (S.bM k ((S.aC k).set j .dead)).aC d = [] := by
  rw [aY]
  split
  ·rename_i hkd
   rw [hkd.1, hdO]; rfl
  ·exact hdO
 have hdead : aU ((S.bM k ((S.aC k).set j .dead)).aC k) j = .dead := by
  rw [aY]
  split
  ·rw [fJ]; split
   ·rfl
   ·rename_i hkl hjl
    have : ¬ j < (S.aC k).length := fun hl => hjl ⟨rfl, hl⟩
    simp only [aU, zE]
    rw [zJ (by omega)]; rfl
  ·rename_i hkl
   have : ¬ k < S.owns.length := fun hl => hkl ⟨rfl, hl⟩
   have hg0 : S.aC k = [] := by
    simp only [St.aC, zE]
    rw [zJ (by omega)]; rfl
   rw [hg0]; rfl
 have hdp : (deep && true) = deep := by simp
 refine ig h12 ho hcc hargs htys hT ht hd hdO1 (labD := eH G k j) (labS := fun _ => False) hO' hY (fun _ _ hh => hh.elim) (fun c hc => ?_) (fM hg) fun a' w' G' h' => hK a' w' G' ?_
 ·rcases hc with hc | hc
  ·have hlt := h.kz hc
   refine ⟨hlt.1, hlt.2, fun i hb => ?_, fun k' j' t2 xs2 d2 m2 hb => ?_⟩
   ·rw [show G.ow c = _ from hc] at hb; cases hb
   ·rw [show G.ow c = _ from hc] at hb
    cases hb
    rw [hdead]; simp [O.fB]
  ·exact hc.elim
 ·rw [hdp] at h'
  exact h'
theorem XE (h : Inv w0 G S a w) {c : Call} (ho : o.op = .call c) (hcc : c.callee = .builtin .append) {E : Env} (hT : E.tt.ok P = true) {ws : List W} (hv : (eff E o).val S = some ws)
  (hK : ∀ a' w' G', Inv w0 G' (S.puts ws) a' w' -> K a' w') : o.wp P a w K Q := by
 unfold eff at hv
 rw [ho] at hv
 simp only [hcc] at hv
 split at hv
 case h_2 => cases hv
 rename_i d x y T T' hd hxy hTT
 have hargs := jZ hxy
 split at hv
 case isFalse =>
  -- a string's bytes
  split at hv
  case isFalse => cases hv
  rename_i hTU
  obtain ⟨ht, hstr⟩ := hTU
  have htys := jZ hTT
  have hsu := TT.GI hT hstr
  simp only [Rd.ak, zB] at hv
  obtain ⟨ax, h1, ay, h2, dy, h3, hv⟩ := hv
  have hrx := aS h h1
  have hry := jW h3 (aS h h2)
  split at hv
  case h_2 => cases hv
  rename_i s
  generalize hdd : D.str s = dd at hry
  have hsv : ∃ v : ByteArray, a.eval y = .string v /\ s = v.data.toList := by
   generalize a.eval y = yv at hry
   cases hry <;> cases hdd
   exact ⟨_, rfl, rfl⟩
  obtain ⟨sv, hyv, rfl⟩ := hsv
  have hY : ∃ news, (∀ size, size = (Ty.base .u8).size -> Src P size T' (a.eval y) (IQ sv.data.toList).length news w) /\ jI w G.S true (.base .u8) (IQ sv.data.toList) news (fun _ => False) := by
   have hbl : (IQ sv.data.toList).length = sv.size := by unfold IQ; rw [List.length_map, Array.length_toList]; rfl
   refine ⟨byteCells sv, fun size hs => ?_, ?_, ?_, fun i _ => ((byteCells sv)[i]?).getD undef, fun _ _ _ => False, fun i x j d hx hd => ?_, fun _ _ _ hh => hh.elim, fun _ _ _ _ _ hh => hh.elim⟩
   ·subst hs
    rw [hyv, hbl]
    exact Src.ofString w hsu sv
   ·rw [byteCells_length, hbl]; exact (Nat.mul_one _).symm
   ·intro u hu
    obtain ⟨_, _, rfl⟩ := List.mem_map.1 hu
    rfl
   ·cases j with
    | succ j => simp [Ty.cells, Base.cells] at hd
    | zero =>
     simp only [Ty.cells, Base.cells, List.getElem?_cons_zero, zD] at hd
     subst hd
     unfold IQ at hx
     rw [List.getElem?_map, Option.map_eq_some_iff] at hx
     obtain ⟨c, hc, rfl⟩ := hx
     have e : (byteCells sv)[i * (Ty.base .u8).size + 0]? = some (Value.int .u8 c.toNat) := by
      show (byteCells sv)[i * 1 + 0]? = _
      unfold byteCells
      rw [Nat.mul_one, Nat.add_zero, List.getElem?_map, hc]; rfl
     have e' : (byteCells sv)[i]? = some (Value.int .u8 c.toNat) := by
      unfold byteCells
      rw [List.getElem?_map, hc]; rfl
     refine ⟨e.trans (by simp only [e', Option.getD_some]), ?_⟩
     simp only [e', Option.getD_some]
     exact .int _ _ _
  split at hv
  ·-- onto nil
   simp only [Rd.val, zB, Rd.ak, zD] at hv
   obtain ⟨_, hg, ws', h10, rfl⟩ := hv
   obtain ⟨hdO, rfl⟩ := eG h10
   refine ig h ho hcc hargs htys hT ht hd hdO (xs := []) (deep := true) (m := true) (labD := fun _ => False) (labS := fun _ => False) (.inl ⟨hrx, rfl⟩) hY (fun _ hh => hh.elim) (fun c hc => (hc.elim id id).elim) (by simpa using fM hg) fun a' w' G' h' => hK a' w' G' ?_
   exact h'
  ·-- onto a list of the call's own
   rename_i k j
   simp only [Rd.val] at hv
   split at hv
   case h_2 => cases hv
   rename_i t' xs deep m hown
   split at hv
   case isFalse => cases hv
   rename_i htt
   subst htt
   simp only [Rd.val, zB, Rd.ak, zD] at hv
   obtain ⟨_, hg, ws', h10, rfl⟩ := hv
   obtain ⟨hdO, rfl⟩ := eG h10
   have hO := h.owns k j
   rw [hown] at hO
   have hO' : OwT w G.S deep m (.base .u8) xs (G.ov k j) (eH G k j) := hO
   rw [<- hrx.2.1] at hO'
   have h12 := h.AB k j .dead trivial
   have hdO1 : (S.bM k ((S.aC k).set j .dead)).aC d = [] := by
    rw [aY]
    split
    ·rename_i hkd
     rw [hkd.1, hdO]; rfl
    ·exact hdO
   have hdead : aU ((S.bM k ((S.aC k).set j .dead)).aC k) j = .dead := by
    rw [aY]
    split
    ·rw [fJ]; split
     ·rfl
     ·rename_i hkl hjl
      have : ¬ j < (S.aC k).length := fun hl => hjl ⟨rfl, hl⟩
      simp only [aU, zE]
      rw [zJ (by omega)]; rfl
    ·rename_i hkl
     have : ¬ k < S.owns.length := fun hl => hkl ⟨rfl, hl⟩
     have hg0 : S.aC k = [] := by
      simp only [St.aC, zE]
      rw [zJ (by omega)]; rfl
     rw [hg0]; rfl
   have hdp : (deep && true) = deep := by simp
   refine ig h12 ho hcc hargs htys hT ht hd hdO1 (labD := eH G k j) (labS := fun _ => False) hO' hY (fun _ _ hh => hh.elim) (fun c hc => ?_) (fM hg) fun a' w' G' h' => hK a' w' G' ?_
   ·rcases hc with hc | hc
    ·have hlt := h.kz hc
     refine ⟨hlt.1, hlt.2, fun i hb => ?_, fun k' j' t2 xs2 d2 m2 hb => ?_⟩
     ·rw [show G.ow c = _ from hc] at hb; cases hb
     ·rw [show G.ow c = _ from hc] at hb
      cases hb
      rw [hdead]; simp [O.fB]
    ·exact hc.elim
   ·rw [hdp] at h'
    exact h'
  ·cases hv
 rename_i hTe
 subst hTe
 have htys := jZ hTT
 split at hv
 ·cases hv
 rename_i t ht
 simp only [Rd.ak, zB] at hv
 obtain ⟨ax, h1, ay, h2, hv⟩ := hv
 split at hv
 ·exact KT h ho hcc hargs htys hT ht ht hd (aS h h1) (aS h h2) hv hK
 ·exact KR h ho hcc hargs htys hT ht ht hd (aS h h1) (aS h h2) hv hK
 simp only [Rd.ak, zB] at hv
 obtain ⟨vy, h3, hv⟩ := hv
 split at hv
 ·cases hv
 rename_i cy
 simp only [Rd.ak, zB] at hv
 obtain ⟨ys, h4, dp, h5, hv⟩ := hv
 have hrx := aS h h1
 have hcy : kY G w cy (a.eval y) := lZ h3 (aS h h2)
 simp only [listOf, Rd.ak, zB, Rd.val, zD] at h4
 obtain ⟨d0, h6, ys', h7, h8⟩ := h4
 have h8' := h8.symm
 subst h8'
 have h9 := D.dB h7
 subst h9
 -- the lists that are taken in
 let keys : List (Nat × Nat) := if t.flat then [] else aI [cy]
 have hros : (if t.flat = true then [] else (aI [cy]).map fun q => W.ro q.1 q.2) = keys.map fun q => W.ro q.1 q.2 := by
  simp only [keys]; split <;> rfl
 split at hv
 ·-- onto nil
  simp only [Rd.val, zB, Rd.ak, zD] at hv
  obtain ⟨_, hg, ws', h10, rfl⟩ := hv
  obtain ⟨hdO, rfl⟩ := eG h10
  have hgd : ys.length <= 34359738368 := fM hg
  have hnk : nodupB (aI [cy]) = true := by cases cy <;> rfl
  have hnk' : nodupB keys = true := by
   by_cases hff : t.flat = true
   ·simp [keys, hff, nodupB]
   ·simp only [keys, if_neg hff]; exact hnk
  -- for flat elements the source stays as it is, but what it reads by is held stable all the same
  by_cases hf : t.flat = true
  ·have hY := AY h h6 hcy h5 (S' := fun x o => G.S x o \/ AK G S (aI [cy]) x o) (fun x o hs => hs)
   have hY' : ((∃ (ad : Option Addr) (cap : Nat), a.eval y = .slice ad 0 cap /\ (ad = none -> cap = 0)) /\ ys = []) \/ ∃ b off cap news, a.eval y = .slice (some ⟨b, off, none⟩) ys.length cap /\ (∀ p u, news[p]? = some u -> w.cell? ⟨b, off + p, none⟩ = some u) /\ jI w G.S dp t ys news (fun _ => False) := by
    rcases hY with hY | ⟨b, off, cap, news, e1, e2, l1, l2, vs, fps, l3, l4, l5⟩
    ·exact .inl hY
    ·refine .inr ⟨b, off, cap, news, e1, e2, l1, l2, vs, fun _ _ _ => False, fun i x j d hx hd' => ⟨(l3 i x j d hx hd').1, ?_⟩, fun _ _ _ hh => hh.elim, fun _ _ _ _ _ hh => hh.elim⟩
     have hs := qx hf hd'
     exact MQ hs (l3 i x j d hx hd').2
   refine ig h ho hcc hargs htys hT ht hd hdO (xs := []) (deep := true) (m := true) (labD := fun _ => False) (labS := fun _ => False) (.inl ⟨hrx, rfl⟩) (src_of hT ht hY') (fun _ hh => hh.elim) (fun c hc => (hc.elim id id).elim) (by simpa using hgd) fun a' w' G' h' => hK a' w' G' ?_
   rw [hros]
   simp only [keys, hf, if_true]
   exact h'
  ·have hk : keys = aI [cy] := by simp only [keys]; rw [if_neg hf]
   obtain ⟨G1, h11, m11, e11, n11⟩ := Inv.Qk keys h hnk'
   have hY := AY h h6 hcy h5 (S' := G1.S) (fun x o hs => (m11.s x o).2 (by rw [hk]; exact hs))
   refine ig h11 ho hcc hargs htys hT ht hd (n11 d hdO) (xs := []) (deep := true) (m := true) (labD := fun _ => False) (.inl ⟨hrx, rfl⟩) (src_of hT ht hY) (fun _ hh => hh.elim) (fun c hc => ?_) (by simpa using hgd) fun a' w' G' h' => hK a' w' G' ?_
   ·rcases hc with hc | ⟨_, k, j, rfl, how, t', xs', deep', m', hown⟩
    ·exact hc.elim
    ·have hlt := h.kz how
     refine ⟨hlt.1, hlt.2, fun i hb => ?_, fun k' j' t2 xs2 d2 m2 hb => ?_⟩
     ·rw [m11.ow, how] at hb; cases hb
     ·rw [m11.ow, how] at hb
      cases hb
      rw [e11, if_pos (by rw [hk]; simp [aI])]
      exact O.Gy hown _ _ _ _
   ·rw [hros, dM, dM]
    exact h'
 ·-- onto a list of the call's own
  rename_i k j
  simp only [Rd.val] at hv
  split at hv
  case h_2 => cases hv
  rename_i t' xs deep m hown
  split at hv
  case isFalse => cases hv
  rename_i htt
  subst htt
  split at hv
  case isFalse => cases hv
  rename_i hnd
  simp only [Rd.val, zB, Rd.ak, zD] at hv
  obtain ⟨_, hg, ws', h10, rfl⟩ := hv
  obtain ⟨hdO, rfl⟩ := eG h10
  have hO' : OwT w G.S deep m t' xs (G.ov k j) (eH G k j) := (h.owns k j).pO hown
  rw [<- hrx.2.1] at hO'
  exact J5 h ho hcc hargs htys hT ht hd hdO hO' hcy h6 h5 hnd (fM hg) hK
 ·-- onto the first entries of a list of the call's own
  rename_i k j n
  simp only [Rd.val] at hv
  split at hv
  case h_2 => cases hv
  rename_i t' xs deep hown
  split at hv
  case isFalse => cases hv
  rename_i htt
  subst htt
  split at hv
  case isFalse => cases hv
  rename_i hnd
  simp only [Rd.val, zB, Rd.ak, zD] at hv
  obtain ⟨_, hg, ws', h10, rfl⟩ := hv
  obtain ⟨hdO, rfl⟩ := eG h10
  have hO := h.owns k j
  rw [hown] at hO
  have hO' : OwT w G.S deep true t' xs (G.ov k j) (eH G k j) := hO
  exact J5 h ho hcc hargs htys hT ht hd hdO (hO'.aaM hrx.2) hcy h6 h5 hnd (fM hg) hK
 ·cases hv
end ops
end Go.Abs
namespace Go.Abs
open Go.RowKit
section ops
variable {P : Program} {w0 : Bs} {G : Gh} {S : St} {a : Act} {w : World} {o : Oper} {K : Act -> World -> Prop} {Q : Exit -> Act -> World -> Prop}
theorem tZ {T : TypeId} {i : TypeInfo} (hi : P.info? T = some i) {g off : Nat} {cur : Array Value} {E : TypeId} (hg : w.heap[g]? = some (.cells cur E (0, 0))) {v : Value} {vs : List Value} (hv : v.cells = vs.toArray) (hn : vs.length = i.size)
  (hl : off + vs.length <= cur.size) (h1 : ∀ u ∈ vs, u.oneCell' = true) :
  (storeVar T ⟨g, off, none⟩ v).run P w = .ok () (w.setRow g (bT cur.toList off vs).toArray) := by
 have := run_storeCells_at P g off E vs 0 cur w hg (by simpa using hl) h1
 simp only [Nat.add_zero] at this
 have e : (storeVar T ⟨g, off, none⟩ v).run P w = (storeCells ⟨g, off, none⟩ vs).run P w := by simp [storeVar, sizeOf, typeInfo, hi, hv, hn]
 rw [e]
 exact this
theorem uj {t : TypeId} {p x : Operand} (ho : o.op = .store t p x) {ad : Addr} (hp : a.eval p = .pointer (some ad)) {w' : World} (hr : (storeVar t ad (a.eval x)).run P w = .ok () w') :
  (execOp a.eval o).run P w = .ok .skip w' := by
 unfold execOp
 simp [ho, hp, Instr.storeAt, Instr.sureAddr, hr]
theorem WY (S : St) (k : Nat) (l l' : List O) : (S.bM k l).bM k l' = S.bM k l' := by simp [St.bM]
theorem P8 : ∀ {tys : List (Option Ty)} {cs : List C} {ds : List D}, (cDs tys cs).val S = some ds -> tys.length = cs.length -> ds.length = cs.length /\ ∀ (j : Nat) (d : D), ds[j]? = some d -> ∃ c ty, cs[j]? = some c /\ (cD ty c).val S = some d
 | [], [], ds, h, _ => by
  simp only [cDs, Rd.val, zD] at h; subst h
  exact ⟨rfl, fun j d hd => by simp at hd⟩
 | ty :: tys, c :: cs, ds, h, hl => by
  simp only [cDs, Rd.ak, zB, Rd.val, zD] at h
  obtain ⟨d0, e1, ds0, e2, rfl⟩ := h
  obtain ⟨l1, g1⟩ := P8 e2 (by simpa using hl)
  refine ⟨by simp [l1], fun j d hd => ?_⟩
  cases j with
  | zero => simp at hd; subst hd; exact ⟨c, ty, rfl, e1⟩
  | succ j => exact g1 j d (by simpa using hd)
theorem ZH {cs : List C} {vs us : List Value} {off : Nat} (hc : bY G w cs vs) (hp : (seg cs off us.length).all C.plain = true) (hl : off + us.length <= vs.length) : ∀ (n : Nat) p l c, vs[n]? = some (Value.slice p l c) -> (bT vs off us)[n]? = some (Value.slice p l c) := by
 intro n p l c hn
 obtain ⟨hcl, hcg⟩ := hc.get
 have hnl : n < vs.length := (zC.1 hn).1
 unfold bT
 by_cases h1 : n < off
 ·rw [List.append_assoc, List.getElem?_append_left (by rw [List.length_take]; omega), List.getElem?_take, if_pos h1]; exact hn
 by_cases h2 : n < off + us.length
 ·exfalso
  have hnc : n < cs.length := by omega
  have hr := hcg n cs[n] _ (by simp [hnc]) hn
  have hm : cs[n] ∈ seg cs off us.length := by
   unfold seg
   refine zG (i := n - off) ?_
   rw [List.getElem?_take, if_pos (by omega), List.getElem?_drop, show off + (n - off) = n by omega]
   simp [hnc]
  have := List.all_eq_true.1 hp _ hm
  generalize cs[n] = cc at *
  cases cc with
  | d x => cases x with
   | list => cases this
   | _ => cases hr
  | _ => cases this
 ·rw [List.getElem?_append_right (by simp; omega), List.getElem?_drop]
  rw [show off + us.length + (n - (vs.take off ++ us).length) = n by simp; omega]; exact hn
theorem Zf (h : Inv w0 G S a w) {t : TypeId} {p x : Operand} (ho : o.op = .store t p x) {E : Env} (hT : E.tt.ok P = true) {ws : List W} (hv : (eff E o).val S = some ws)
  (hK : ∀ a' w' G', Inv w0 G' (S.puts ws) a' w' -> K a' w') : o.wp P a w K Q := by
 unfold eff at hv
 rw [ho] at hv
 simp only at hv
 split at hv
 ·cases hv
 rename_i agg n hs
 obtain ⟨d, i, hu, hi, hsz, hd⟩ := TT.qQ hT hs
 simp only [Rd.ak, zB] at hv
 obtain ⟨av, h1, v, h2, hv⟩ := hv
 have hr := lZ h2 (aS h h1)
 obtain ⟨us, hus, hcs⟩ := hr.NT
 split at hv
 case isFalse => cases hv
 rename_i hn
 have hul : us.length = n := by rw [<- hcs.length]; exact hn
 simp only [Rd.ak, zB] at hv
 obtain ⟨ap, h3, hv⟩ := hv
 have hrp := aS h h3
 split at hv
 ·rename_i b off
  simp only [Rd.val] at hv
  split at hv
  ·rename_i cs hcsb
   split at hv
   ·rename_i hle'
    obtain ⟨hle, hpl⟩ := hle'
    simp only [Rd.val, zD] at hv
    subst hv
    obtain ⟨_, vs, e, hh, hc⟩ := h.box b cs hcsb
    have hvl := hc.length
    refine zk (uj ho hrp.2 (tZ hi hh hus (by omega) (by simp; omega) hcs.one)) (hK _ _ G ?_)
    have h' := h.adH b hcsb (hc.bT hcs off) fun e0 vs2 E2 hh2 => (by rw [hh] at hh2; cases hh2; exact ZH hc (by simpa [e0, hul] using hpl) (by omega))
    exact h'.dst xJ
   ·cases hv
  ·cases hv
 ·rename_i k j ii sz off
  simp only [Rd.val] at hv
  split at hv
  case h_2 => cases hv
  rename_i ty xs deep hown
  simp only [Rd.val, zB] at hv
  obtain ⟨x0, hx0, hv⟩ := hv
  split at hv
  case isFalse => cases hv
  rename_i hoff
  simp only [Rd.ak, zB] at hv
  obtain ⟨ds, h4, dp, h5, hv⟩ := hv
  simp only [Rd.val, zB] at hv
  obtain ⟨y, h6, hv⟩ := hv
  split at hv
  case isFalse => cases hv
  rename_i hnd
  simp only [Rd.val, zD] at hv
  subst hv
  obtain ⟨hlk, b, len, cap, hov, hpv⟩ := hrp
  obtain ⟨hkn, hnk⟩ := jr hnd
  have hO := h.owns k j
  rw [hown] at hO
  rcases hO with ⟨he, _⟩ | ⟨b', cap', arr, e, vs, fps, hv', hb, hcap, hmax, hasz, hfb, hc, hrr, hf, hdis, hsS⟩
  ·rw [hov] at he; cases he
  rw [hov] at hv'
  injection hv' with e1 e2 e3
  injection e1 with e1
  injection e1 with e1 _ _
  subst e1
  have hii : ii < xs.length := (zC.1 hx0).1
  obtain ⟨hsz2, hon⟩ := hoff
  have htl : (seg ty.tys off n).length = v.cells.length := by simp [Abs.seg, lg]; omega
  obtain ⟨hdl, hdg⟩ := P8 h4 htl
  -- the lists that are taken in
  obtain ⟨G1, h7, m7, e7, n7⟩ := Inv.Qk (aI v.cells) h hnk
  have hS2 : ∀ k' j', aU ((S.puts ((aI v.cells).map fun q => W.ro q.1 q.2)).aC k') j' = if (k', j') ∈ aI v.cells then (aU (S.aC k') j').yG else aU (S.aC k') j' := e7
  have h8 := h7.AB k j .dead trivial
  generalize hS1 : S.puts ((aI v.cells).map fun q => W.ro q.1 q.2) = S1 at *
  have hnq : ∀ k' j', (k', j') ∈ aI v.cells -> ∀ t' xs', aU (S.aC k') j' ≠ .seg t' xs' := fun k' j' hm t' xs' he => by
   obtain ⟨q, hq⟩ := List.getElem?_of_mem (qi hm)
   have hql : q < ds.length := by rw [hdl]; exact (zC.1 hq).1
   obtain ⟨c, ty', hc1, hc2⟩ := hdg q _ (zF hql)
   rw [hq] at hc1
   cases hc1
   simp only [cD, Rd.val, he] at hc2
   cases hc2
  have hnp : ∀ k' j', (k', j') ∈ aI v.cells -> ∀ t' xs' i', aU (S.aC k') j' ≠ .part t' xs' i' := fun k' j' hm t' xs' i' he => by
   obtain ⟨q, hq⟩ := List.getElem?_of_mem (qi hm)
   have hql : q < ds.length := by rw [hdl]; exact (zC.1 hq).1
   obtain ⟨c, ty', hc1, hc2⟩ := hdg q _ (zF hql)
   rw [hq] at hc1
   cases hc1
   simp only [cD, Rd.val, he] at hc2
   cases hc2
  have hdead : ∀ k' j' t' xs' d' m', (aU ((S1.bM k ((S1.aC k).set j .dead)).aC k') j').fB = .own t' xs' d' m' -> (k', j') ≠ (k, j) /\ (k', j') ∉ aI v.cells := by
   intro k' j' t' xs' d' m' hx
   rw [aY] at hx
   split at hx
   ·rename_i hkk
    obtain ⟨rfl, hkl⟩ := hkk
    rw [fJ] at hx
    split at hx
    ·cases hx
    ·rename_i hjj
     refine ⟨fun e => ?_, fun hm => ?_⟩
     ·cases e
      have : ¬ j < (S1.aC k).length := fun hl => hjj ⟨rfl, hl⟩
      have : aU (S1.aC k) j = .dead := by
       simp only [aU, zE]
       rw [zJ (by omega)]; rfl
      rw [this] at hx; cases hx
     ·rw [hS2, if_pos hm] at hx
      cases hoo : aU (S.aC k) j' <;> rw [hoo] at hx <;> simp [O.yG, O.fB] at hx
      ·exact hnp _ _ hm _ _ _ hoo
      ·exact hnq _ _ hm _ _ hoo
   ·rename_i hkk
    refine ⟨fun e => ?_, fun hm => ?_⟩
    ·cases e
     have : ¬ k < S1.owns.length := fun hl => hkk ⟨rfl, hl⟩
     have hg0 : S1.aC k = [] := by
      simp only [St.aC, zE]
      rw [zJ (by omega)]; rfl
     rw [hg0] at hx; cases hx
    ·rw [hS2, if_pos hm] at hx
     cases hoo : aU (S.aC k') j' <;> rw [hoo] at hx <;> simp [O.yG, O.fB] at hx
     ·exact hnp _ _ hm _ _ _ hoo
     ·exact hnq _ _ hm _ _ hoo
  let arr' : Array Value := (bT arr.toList (ii * sz + off) us).toArray
  have hidx : ii * sz + off + us.length <= arr.toList.length := by
   have e1 : arr.toList.length = arr.size := Array.length_toList
   rw [e1, hasz, <- hsz2]
   have : (ii + 1) * ty.size <= cap' * ty.size := Nat.mul_le_mul_right _ (by omega)
   rw [Nat.succ_mul] at this
   omega
  have hsr := setRow_heap w b arr arr' e (0, 0) hb
  have hoth : ∀ c, c ≠ b -> (w.setRow b arr').heap[c]? = w.heap[c]? := fun c hc => setRow_other w b c _ hc
  have hbo : G1.ow b = some (.own k j) := by rw [m7.ow]; exact hfb
  have hSb : ∀ oo, ¬ G1.S b oo := by
   intro oo hs
   rcases (m7.s b oo).1 hs with hs | ⟨k', j', t2, xs2, d2, m2, hmem, _, how, _⟩
   ·exact absurd (hsS oo hs).1 (by simp)
   ·rw [show G.ow b = some (.own k j) from hfb] at how
    cases how
    exact hkn hmem
  have h9 := h8.VG b (w' := w.setRow b arr') (h7.kz hbo).1 (fun i hb' => by rw [hbo] at hb'; cases hb') (fun k' j' t' xs' d' m' hb' hx => by
    rw [hbo] at hb'; cases hb'
    exact (hdead k j t' xs' d' m' hx).1 rfl) rfl rfl rfl (by simp) (fun c _ hc => hoth c hc) (fun oo hs => absurd hs (hSb oo))
  classical
  have h10 := h9.aeh (fun c => ∃ (q : Nat) (cc : C), v.cells[q]? = some cc /\ rowsOf G S cc c) k j (fun c hc => by
   obtain ⟨q, cc, hq, k', j', rfl, how, t2, xs2, d2, m2, hown2⟩ := hc
   have hlt := h.kz how
   refine ⟨hlt.1, by simpa using hlt.2, fun i hb' => ?_, fun k'' j'' t' xs' d' m' hb' _ hx => ?_⟩
   ·rw [m7.ow, how] at hb'; cases hb'
   ·rw [m7.ow, how] at hb'
    cases hb'
    exact (hdead _ _ t' xs' d' m' hx).2 (fO (zG hq)))
  -- the entry
  have hrows_ne : ∀ (q : Nat) (cc : C) (c : Nat), v.cells[q]? = some cc -> rowsOf G S cc c -> G.ow c ≠ some (.own k j) := by
   rintro q cc c hq ⟨k', j', rfl, how, _⟩ hcj
   rw [how] at hcj
   cases hcj
   exact hkn (fO (zG hq))
  have hnew : qB { G1 with ow := fun c => if ∃ (q : Nat) (cc : C), v.cells[q]? = some cc /\ rowsOf G S cc c then some (.own k j) else G1.ow c } (w.setRow b arr') k j (.own ty (xs.set ii y) (deep && dp) true) := by
   refine .inr ⟨b, cap', arr', e, fun i' j' => if i' = ii /\ off <= j' /\ j' < off + n then us.getD (j' - off) undef else vs i' j',
    fun i' j' c => if i' = ii /\ off <= j' /\ j' < off + n then ∃ cc, v.cells[j' - off]? = some cc /\ rowsOf G S cc c else fps i' j' c, ?_, hsr, by simpa using hcap, hmax, ?_, ?_, ?_, ?_, ?_, ?_, ?_⟩
   ·rw [List.length_set]
    show G1.ov k j = _
    rw [m7.ov, hov, e2, e3]
   ·show (bT arr.toList (ii * sz + off) us).length = _
    rw [qG _ _ _ hidx]
    have e1 : arr.toList.length = arr.size := Array.length_toList
    rw [e1, hasz]
   ·show (if _ then some (vG.own k j) else G1.ow b) = _
    split
    ·rfl
    ·exact hbo
   ·intro i' x' j' d' hx' hd'
    have hj' : j' < ty.size := by
     have := (zC.1 hd').1
     rwa [Ty.aQ] at this
    have hi' : i' < xs.length := by have := (zC.1 hx').1; simpa using this
    rw [<- Array.getElem?_toList]
    show (bT arr.toList (ii * sz + off) us)[i' * ty.size + j']? = some (if i' = ii /\ off <= j' /\ j' < off + n then us.getD (j' - off) undef else vs i' j')
    simp only [bT, List.getElem?_append, List.getElem?_take, List.getElem?_drop, List.length_append, List.length_take]
    have m1 : min (ii * sz + off) arr.toList.length = ii * sz + off := by omega
    rw [m1]
    by_cases hin : i' = ii /\ off <= j' /\ j' < off + n
    ·obtain ⟨rfl, h11, h12⟩ := hin
     have a1 : i' * ty.size + j' < i' * sz + off + us.length := by rw [hsz2]; omega
     have a2 : ¬ i' * ty.size + j' < i' * sz + off := by rw [hsz2]; omega
     have a3 : i' * ty.size + j' - (i' * sz + off) = j' - off := by rw [hsz2]; omega
     have a4 : j' - off < us.length := by omega
     simp [a1, a2, a3, h11, h12, a4]
    ·have hold : arr.toList[i' * ty.size + j']? = some (vs i' j') := by
      by_cases hii' : i' = ii
      ·subst hii'
       have hd0 : ∃ d0, (ty.cells x0)[j']? = some d0 := by
        have : j' < (ty.cells x0).length := by rw [Ty.aQ]; exact hj'
        exact ⟨_, zF this⟩
       obtain ⟨d0, hd0⟩ := hd0
       simpa using hc i' x0 j' d0 hx0 hd0
      ·rw [List.getElem?_set, if_neg (Ne.symm hii')] at hx'
       simpa using hc i' x' j' d' hx' hd'
     rw [if_neg hin]
     have hcase : i' * ty.size + j' < ii * sz + off \/ ii * sz + off + us.length <= i' * ty.size + j' := by
      rw [<- hsz2, hul]
      by_cases hii' : i' = ii
      ·subst hii'
       have : ¬ (off <= j' /\ j' < off + n) := fun hh => hin ⟨rfl, hh⟩
       omega
      ·rcases Nat.lt_or_gt_of_ne hii' with hl | hl
       ·have : (i' + 1) * ty.size <= ii * ty.size := Nat.mul_le_mul_right _ hl
        rw [Nat.succ_mul] at this
        omega
       ·have : (ii + 1) * ty.size <= i' * ty.size := Nat.mul_le_mul_right _ hl
        rw [Nat.succ_mul] at this
        omega
     rcases hcase with hl | hl
     ·have a1 : i' * ty.size + j' < ii * sz + off + us.length := by omega
      rw [if_pos a1, if_pos hl, if_pos hl]; exact hold
     ·have a1 : ¬ i' * ty.size + j' < ii * sz + off + us.length := by omega
      rw [if_neg a1]
      have a2 : ii * sz + off + us.length + (i' * ty.size + j' - (ii * sz + off + us.length)) = i' * ty.size + j' := by omega
      rw [a2]; exact hold
   ·intro i' x' j' d' hx' hd'
    have hmv : ∀ b' oo, G.S b' oo -> G1.S b' oo /\ (w.setRow b arr').cell? ⟨b', oo, none⟩ = w.cell? ⟨b', oo, none⟩ := fun b' oo hs =>
     ⟨(m7.s b' oo).2 (.inl hs), World.cell?_of_block (w := w) (hoth b' fun eb => hSb oo (eb ▸ (m7.s b' oo).2 (.inl hs)))⟩
    by_cases hin : i' = ii /\ off <= j' /\ j' < off + n
    ·obtain ⟨rfl, h11, h12⟩ := hin
     rw [List.getElem?_set, if_pos rfl, if_pos hii] at hx'
     cases hx'
     rw [Ty.bV h6] at hd'
     have hdd : ds[j' - off]? = some d' := by
      simp only [bT, List.getElem?_append, List.getElem?_take, List.getElem?_drop, List.length_append, List.length_take, Ty.aQ, hdl, hn] at hd'
      have m1 : min off ty.size = off := by omega
      rw [m1] at hd'
      have a1 : j' < off + n := h12
      have a2 : ¬ j' < off := by omega
      simpa [a1, a2] using hd'
     obtain ⟨cc, tyc, hcc, hcd⟩ := hdg _ _ hdd
     obtain ⟨bb, hb1, hb2⟩ := uQ h5 _ cc hcc
     have hlt : j' - off < us.length := by omega
     have hcr := hcs.get.2 _ cc us[j' - off] hcc (by simp [hlt])
     have := P6 h hcd hcr hb1 hb2 (S' := G1.S) (keys := aI v.cells) (fun xx oo hs => (m7.s xx oo).2 hs) fun k' j'' ec => fO (ec ▸ zG hcc)
     simp only [h11, h12, and_self, if_true]
     have hg : us.getD (j' - off) undef = us[j' - off] := by simp [hlt]
     rw [hg]
     refine (this.move (fun b' oo hs => ⟨hs, World.cell?_of_block (w := w) (hoth b' fun eb => hSb oo (eb ▸ hs))⟩) fun c hc' => hoth c fun eb => ?_).sub (fun c hc' => ⟨cc, hcc, hc'⟩) fun ee => (zI _ _ ▸ ee).2
     exact hrows_ne _ cc c hcc hc' (by rw [eb]; exact hfb)
    ·simp only [if_neg hin]
     have hw' : Ow w G.S deep d' (vs i' j') (fps i' j') := by
      by_cases hii' : i' = ii
      ·subst hii'
       rw [List.getElem?_set, if_pos rfl, if_pos hii] at hx'
       cases hx'
       rw [Ty.bV h6] at hd'
       refine hrr i' x0 j' d' hx0 ?_
       have hno : ¬ (off <= j' /\ j' < off + n) := fun hh => hin ⟨rfl, hh⟩
       simp only [bT, List.getElem?_append, List.getElem?_take, List.getElem?_drop, List.length_append, List.length_take, Ty.aQ, hdl, hn] at hd'
       have m1 : min off ty.size = off := by omega
       rw [m1] at hd'
       by_cases hl : j' < off
       ·have a1 : j' < off + n := by omega
        simpa [a1, hl] using hd'
       ·have a1 : ¬ j' < off + n := by omega
        have a2 : off + n + (j' - (off + n)) = j' := by omega
        simpa [a1, a2] using hd'
      ·rw [List.getElem?_set, if_neg (Ne.symm hii')] at hx'
       exact hrr i' x' j' d' hx' hd'
     refine (hw'.move hmv fun c hc' => hoth c (hf i' j' c hc').2).sub (fun c hc' => ?_) fun ee => (zI _ _ ▸ ee).1
     first | exact hc' | (rw [if_neg hin]; exact hc')
   ·intro i' j' c hcf
    split at hcf
    ·obtain ⟨cc, hcc, hrow⟩ := hcf
     refine ⟨?_, fun eb => hrows_ne _ cc c hcc hrow (by rw [eb]; exact hfb)⟩
     show (if _ then some (vG.own k j) else G1.ow c) = _
     rw [if_pos ⟨_, cc, hcc, hrow⟩]
    ·refine ⟨?_, (hf i' j' c hcf).2⟩
     show (if _ then some (vG.own k j) else G1.ow c) = _
     split
     ·rfl
     ·rw [m7.ow]; exact (hf i' j' c hcf).1
   ·intro i1 j1 i2 j2 c hc1 hc2
    split at hc1
    ·rename_i hin1
     obtain ⟨cc1, hcc1, hrow1⟩ := hc1
     split at hc2
     ·rename_i hin2
      obtain ⟨cc2, hcc2, hrow2⟩ := hc2
      obtain ⟨k1, l1, rfl, how1, _⟩ := hrow1
      obtain ⟨k2, l2, rfl, how2, _⟩ := hrow2
      rw [how1] at how2
      cases how2
      have := eX hnk hcc1 hcc2
      omega
     ·exact absurd (hf i2 j2 c hc2).1 (hrows_ne _ cc1 c hcc1 hrow1)
    ·split at hc2
     ·obtain ⟨cc2, hcc2, hrow2⟩ := hc2
      exact absurd (hf i1 j1 c hc1).1 (hrows_ne _ cc2 c hcc2 hrow2)
     ·exact hdis _ _ _ _ _ hc1 hc2
   ·intro oo hs
    exact absurd hs (hSb oo)
  have h11 := h10.AB k j _ hnew
  have hpv' : a.eval p = .pointer (some ⟨b, ii * sz + off, none⟩) := hpv
  have e1 : arr.toList.length = arr.size := Array.length_toList
  have hst : (S1.bM k ((S1.aC k).set j .dead)).bM k (((S1.bM k ((S1.aC k).set j .dead)).aC k).set j (.own ty (xs.set ii y) (deep && dp) true)) = S1.put (.upd k j (.own ty (xs.set ii y) (deep && dp) true)) := by
   show _ = S1.bM k ((S1.aC k).set j _)
   by_cases hkl : k < S1.owns.length
   ·rw [WY, aY, if_pos ⟨rfl, hkl⟩, List.set_set]
   ·simp only [vZ hkl]
  rw [hst] at h11
  have h12 := h11.dst (o := o) (xJ (G := _) (w := _))
  have hpu : S.puts (((aI v.cells).map fun q => W.ro q.1 q.2) ++ (.upd k j (.own ty (xs.set ii y) (deep && dp) true) :: dR o (.tup []))) = (S1.put (.upd k j (.own ty (xs.set ii y) (deep && dp) true))).puts (dR o (.tup [])) := by
   rw [dM, hS1]; rfl
  rw [<- hpu] at h12
  exact zk (uj ho hpv' (tZ hi hb hus (by omega) (by omega) hcs.one)) (hK _ _ _ h12)
 ·cases hv
end ops
end Go.Abs
namespace Go.Abs
open Go.RowKit
theorem Ny {α : Type} {xs r : List α} {lo hi : Option Int} (h : eff.cutL xs lo hi = some r) :
  0 <= lo.getD 0 /\ lo.getD 0 <= hi.getD xs.length /\ hi.getD xs.length <= xs.length /\ r = (xs.take (hi.getD xs.length).toNat).drop (lo.getD 0).toNat := by
 simp only [eff.cutL] at h
 split at h
 ·rename_i hc; exact ⟨hc.1, hc.2.1, hc.2.2, (Option.some.inj h).symm⟩
 ·cases h
section ops
variable {P : Program} {w0 : Bs} {G : Gh} {S : St} {a : Act} {w : World} {o : Oper} {K : Act -> World -> Prop} {Q : Exit -> Act -> World -> Prop}
theorem bZ (isSlice : Bool) (len cap : Nat) (lo hi : Option Value) (l h : Int) (hlo : lo = none /\ l = 0 \/ ∃ k, lo = some (.int k l)) (hhi : hi = none /\ h = len \/ ∃ k, hi = some (.int k h))
  (h0 : 0 <= l) (h1 : l <= h) (h2 : h <= cap) : (Instr.sliceBounds isSlice len cap lo hi none).run P w = .ok (l.toNat, h.toNat, cap) w := by
 rcases hlo with ⟨rfl, rfl⟩ | ⟨k, rfl⟩ <;> rcases hhi with ⟨rfl, rfl⟩ | ⟨k', rfl⟩
 ·simp [Instr.sliceBounds]
 ·simp [Instr.sliceBounds, Instr.sliceBound, asIntOf, h1, h2]
 ·simp [Instr.sliceBounds, Instr.sliceBound, asIntOf, h0, h1]
 ·have h3 : (0 : Int) <= h := by omega
  have h5 : max h 0 = h := by omega
  have h6 : ¬ h < l := by omega
  simp [Instr.sliceBounds, Instr.sliceBound, asIntOf, h0, h2, h3, h5, h6]
theorem WB (h : Inv w0 G S a w) {x : Option Operand} {b : Option Int} (hv : (eff.bnd x).val S = some b) (d : Int) : (x.map a.eval = none /\ b.getD d = d) \/ ∃ k, x.map a.eval = some (.int k (b.getD d)) := by
 cases x with
 | none =>
  simp only [eff.bnd, Rd.val, zD] at hv
  subst hv
  exact .inl ⟨rfl, rfl⟩
 | some x =>
  simp only [eff.bnd, Rd.ak, zB, Rd.val, zD] at hv
  obtain ⟨av, h1, n, h2, rfl⟩ := hv
  obtain ⟨k, hk⟩ := oO h2 (aS h h1)
  exact .inr ⟨k, by simp [hk]⟩
theorem Inv.NZ (h : Inv w0 G S a w) (k j : Nat) : ∃ G', Inv w0 G' (S.put (.nomut k j)) a w /\ More G G' (AK G S [(k, j)]) := by
 have hO := h.owns k j
 -- the entry first
 have h1 : Inv w0 G (S.put (.nomut k j)) a w := by
  refine h.AB k j _ ?_
  cases hx : aU (S.aC k) j with
  | dead => trivial
  | ro t xs => rw [hx] at hO; exact hO
  | part t xs i => rw [hx] at hO; exact hO
  | seg t xs => rw [hx] at hO; exact hO
  | tree t xs =>
   rcases h.Zc (k := k) (j := j) (by rw [hx]; rfl) with he | ⟨b, cap, arr, E, vs, fps, e1, e2, e3, e4, e5, e6, e7, e8, e9, e10, hs⟩
   ·exact .inl he
   ·exact .inr ⟨b, cap, arr, E, vs, fps, e1, e2, e3, e4, e5, e6, e7, e8, e9, e10, fun oo ho => ⟨rfl, (hs oo ho).2⟩⟩
  | own t xs deep m =>
   rw [hx] at hO
   rcases hO with he | ⟨b, cap, arr, E, vs, fps, e1, e2, e3, e4, e5, e6, e7, e8, e9, e10, hs⟩
   ·exact .inl he
   ·exact .inr ⟨b, cap, arr, E, vs, fps, e1, e2, e3, e4, e5, e6, e7, e8, e9, e10, fun oo ho => ⟨rfl, (hs oo ho).2⟩⟩
 have hent : ∀ k' j' t xs deep m, aU ((S.put (.nomut k j)).aC k') j' = .own t xs deep m -> ∃ m', (aU (S.aC k') j').pO = .own t xs deep m' /\ ((k', j') = (k, j) -> m = false) := by
  intro k' j' t xs deep m hx
  change aU ((S.bM k ((S.aC k).set j (aU (S.aC k) j).yQ)).aC k') j' = _ at hx
  rw [aY] at hx
  split at hx
  ·rename_i hk
   obtain ⟨rfl, hkl⟩ := hk
   rw [fJ] at hx
   split at hx
   ·rename_i hj
    obtain ⟨rfl, _⟩ := hj
    cases hoo : aU (S.aC k) j with
    | dead => rw [hoo] at hx; cases hx
    | ro t' xs' => rw [hoo] at hx; cases hx
    | part t' xs' i' => rw [hoo] at hx; cases hx
    | seg t' xs' => rw [hoo] at hx; cases hx
    | own t' xs' deep' m' =>
     rw [hoo] at hx
     simp only [O.yQ, O.own.injEq] at hx
     obtain ⟨rfl, h2, rfl, rfl⟩ := hx
     cases h2
     exact ⟨m', rfl, fun _ => rfl⟩
    | tree t' xs' =>
     rw [hoo] at hx
     simp only [O.yQ, O.own.injEq] at hx
     obtain ⟨rfl, h2, rfl, rfl⟩ := hx
     cases h2
     exact ⟨true, rfl, fun _ => rfl⟩
   ·rename_i hj
    refine ⟨m, by rw [hx]; rfl, fun e => ?_⟩
    cases e
    have : ¬ j < (S.aC k).length := fun hl => hj ⟨rfl, hl⟩
    have : aU (S.aC k) j = .dead := by
     simp only [aU, zE]
     rw [zJ (by omega)]; rfl
    rw [this] at hx; cases hx
  ·rename_i hk
   refine ⟨m, by rw [hx]; rfl, fun e => ?_⟩
   cases e
   have : ¬ k < S.owns.length := fun hl => hk ⟨rfl, hl⟩
   have hg0 : S.aC k = [] := by
    simp only [St.aC, zE]
    rw [zJ (by omega)]; rfl
   rw [hg0] at hx; cases hx
 have hnt : ∀ t xs, (aU ((S.put (.nomut k j)).aC k) j).IsT t xs -> ∀ t' xs' d' m', (aU (S.aC k) j).pO ≠ .own t' xs' d' m' := by
  intro t xs hx t' xs' d' m'
  change (aU ((S.bM k ((S.aC k).set j (aU (S.aC k) j).yQ)).aC k) j).IsT t xs at hx
  rw [aY] at hx
  split at hx
  ·rw [fJ] at hx
   split at hx
   ·cases hoo : aU (S.aC k) j <;> rw [hoo] at hx <;> simp [O.yQ, O.IsT, O.pO] at hx ⊢
   ·rename_i hj
    have : ¬ j < (S.aC k).length := fun hl => hj ⟨rfl, hl⟩
    have : aU (S.aC k) j = .dead := by
     simp only [aU, zE]
     rw [zJ (by omega)]; rfl
    rw [this] at hx; rcases hx with hx | ⟨_, hx⟩ | hx <;> cases hx
  ·rename_i hk
   have : ¬ k < S.owns.length := fun hl => hk ⟨rfl, hl⟩
   have hg0 : S.aC k = [] := by
    simp only [St.aC, zE]
    rw [zJ (by omega)]; rfl
   rw [hg0] at hx; rcases hx with hx | ⟨_, hx⟩ | hx <;> cases hx
 obtain ⟨h2, _⟩ := h1.Vp (AK G S [(k, j)]) (by
  rintro b oo ⟨k', j', t, xs, deep, m, hmem, hown, how, hlt⟩
  simp only [List.mem_singleton, Prod.mk.injEq] at hmem
  obtain ⟨rfl, rfl⟩ := hmem
  refine ⟨(h.olt _ _ how).2, fun i hb => (by rw [how] at hb; cases hb), fun k2 j2 t2 xs2 d2 m2 hx len cap hov how2 => ?_⟩
  rw [how] at how2
  cases how2
  obtain ⟨m', h3, h4⟩ := hent _ _ _ _ _ _ hx
  rw [hown] at h3
  cases h3
  exact ⟨h4 rfl, hlt len cap hov⟩) (by
  rintro b oo ⟨k', j', t, xs, deep, m, hmem, hown, how, hlt⟩
  exact (h.kz how).1) (by
  rintro b oo ⟨k', j', t, xs, deep, m, hmem, hown, how, hlt⟩ k2 j2 t2 xs2 hx how2
  simp only [List.mem_singleton, Prod.mk.injEq] at hmem
  obtain ⟨rfl, rfl⟩ := hmem
  rw [how] at how2
  cases how2
  exact hnt t2 xs2 hx _ _ _ _ hown)
 exact ⟨_, h2, rfl, rfl, rfl, rfl, rfl, fun b oo => Iff.rfl⟩
theorem Dh {S0 : Nat -> Nat -> Prop} {t : Ty} {xs r : List t.den} {v : Value} (hrep : Rep w S0 (.list t xs) v) {T e : TypeId} {i : TypeInfo} (hu : P.underlying T = some (.slice e)) (hi : P.info? e = some i) (hsz : i.size = t.size)
  {lo hi' : Option Value} {blo bhi : Option Int} (hlo : (lo = none /\ blo.getD 0 = 0) \/ ∃ k, lo = some (.int k (blo.getD 0))) (hhi : (hi' = none /\ bhi.getD xs.length = xs.length) \/ ∃ k, hi' = some (.int k (bhi.getD xs.length)))
  (hr : eff.cutL xs blo bhi = some r) : ∃ v', (Instr.sliceAt T v lo hi' none).run P w = .ok v' w /\ Rep w S0 (.list t r) v' := by
 obtain ⟨h0, h1, h2, rfl⟩ := Ny hr
 generalize hl : blo.getD 0 = l at *
 generalize hh : bhi.getD (xs.length : Int) = hv at *
 have hrl : ((xs.take hv.toNat).drop l.toNat).length = hv.toNat - l.toNat := by simp; omega
 generalize hdd : D.list t xs = dd at hrep
 cases hrep with
 | int => cases hdd
 | bool => cases hdd
 | str => cases hdd
 | nil t' =>
  cases hdd
  have hv0 : hv = 0 := by simp at h2; omega
  subst hv0
  have hl0 : l = 0 := by omega
  subst hl0
  have hsb := bZ (P := P) (w := w) true 0 0 lo hi' 0 0 (hlo.imp id id) (by simpa using hhi) (by omega) (by omega) (by omega)
  refine ⟨.slice none 0 0, ?_, ?_⟩
  ·simp only [Int.toNat_zero] at hsb
   simp [Instr.sliceAt, Instr.slice, run_underlying hu, hsb, sizeOf, typeInfo, hi]
  ·simp; exact .nil _
 | emp t' ad cap =>
  cases hdd
  have hv0 : hv = 0 := by simp at h2; omega
  subst hv0
  have hl0 : l = 0 := by omega
  subst hl0
  have hsb := bZ (P := P) (w := w) true 0 cap lo hi' 0 0 (hlo.imp id id) (by simpa using hhi) (by omega) (by omega) (by omega)
  have he : ad.add 0 = ad := rfl
  refine ⟨.slice (some ad) 0 cap, ?_, ?_⟩
  ·simp only [Int.toNat_zero] at hsb
   simp [Instr.sliceAt, Instr.slice, run_underlying hu, hsb, sizeOf, typeInfo, hi, he]
  ·simp; exact .emp _ _ _
 | list t' xs' b off cap vs hcap hc hrr =>
  cases hdd
  have hsb := bZ (P := P) (w := w) true xs.length cap lo hi' l hv hlo hhi h0 h1 (by omega)
  by_cases hcl : cap = l.toNat
  ·refine ⟨.slice (some ⟨b, off, none⟩) (hv.toNat - l.toNat) (cap - l.toNat), ?_, ?_⟩
   ·simp [Instr.sliceAt, Instr.slice, run_underlying hu, hsb, sizeOf, typeInfo, hi, if_pos hcl]
   ·have he : (xs.take hv.toNat).drop l.toNat = [] := List.eq_nil_of_length_eq_zero (by omega)
    have hz : hv.toNat - l.toNat = 0 := by omega
    rw [he, hz]
    exact .list t [] b off _ (fun _ _ => undef) (by simp) (fun i x j d hx => by simp at hx) (fun i x j d hx => by simp at hx)
  ·refine ⟨.slice (some ⟨b, off + l.toNat * t.size, none⟩) (hv.toNat - l.toNat) (cap - l.toNat), ?_, ?_⟩
   ·simp [Instr.sliceAt, Instr.slice, run_underlying hu, hsb, sizeOf, typeInfo, hi, hcl, hsz, addr_add]
   ·have hget : ∀ (i : Nat) (x : t.den), ((xs.take hv.toNat).drop l.toNat)[i]? = some x -> xs[l.toNat + i]? = some x := by
     intro i x hx
     rw [List.getElem?_drop, List.getElem?_take] at hx
     split at hx
     ·exact hx
     ·cases hx
    rw [<- hrl]
    refine .list t _ b _ _ (fun i j => vs (l.toNat + i) j) (by rw [hrl]; omega) (fun i x j d hx hd => ?_) (fun i x j d hx hd => hrr _ x j d (hget i x hx) hd)
    have := hc _ x j d (hget i x hx) hd
    rw [Nat.add_mul, Nat.add_assoc, <- Nat.add_assoc off] at this
    exact this
theorem Ik {S : St} {k j : Nat} {t : Ty} {xs : List t.den} {deep : Bool} (h : aU (S.aC k) j = .own t xs deep false) : S.put (.nomut k j) = S := by
 show S.bM k ((S.aC k).set j (aU (S.aC k) j).yQ) = S
 have hj : j < (S.aC k).length := by
  rcases Nat.lt_or_ge j (S.aC k).length with hl | hl
  ·exact hl
  ·simp [aU, zE, zJ hl] at h
 have hk : k < S.owns.length := by
  rcases Nat.lt_or_ge k S.owns.length with hl | hl
  ·exact hl
  ·simp [St.aC, zE, zJ hl] at hj
 have e1 : (S.aC k).set j (aU (S.aC k) j).yQ = S.aC k := by
  rw [h]
  show (S.aC k).set j (.own t xs deep false) = _
  rw [<- h]
  refine List.ext_getElem (by simp) fun i h1 h2 => ?_
  rw [List.getElem_set]
  split
  ·rename_i e; subst e; simp [aU, zE, hj]
  ·rfl
 rw [e1]
 cases S with
 | mk tm bx ow =>
  show St.mk tm bx (ow.set k _) = St.mk tm bx ow
  congr 1
  refine List.ext_getElem (by simp) fun i h1 h2 => ?_
  rw [List.getElem_set]
  split
  ·rename_i e; subst e; simp [St.aC, zE, h2]
  ·rfl
theorem Zg (h : Inv w0 G S a w) {T : TypeId} {x : Operand} {lo hi mx : Option Operand} (ho : o.op = .slice T x lo hi mx) {E : Env} (hT : E.tt.ok P = true) {ws : List W} (hv : (eff E o).val S = some ws)
  (hK : ∀ a' w' G', Inv w0 G' (S.puts ws) a' w' -> K a' w') : o.wp P a w K Q := by
 unfold eff at hv
 rw [ho] at hv
 simp only at hv
 split at hv
 ·cases hv
 simp only [Rd.ak, zB] at hv
 obtain ⟨av, h1, blo, h2, bhi, h3, hv⟩ := hv
 have hr := aS h h1
 have hlo := WB h h2
 have hhi := WB h h3
 have run : ∀ {v' : Value}, (Instr.sliceAt T (a.eval x) (lo.map a.eval) (hi.map a.eval) none).run P w = .ok v' w -> (execOp a.eval o).run P w = .ok (.value v') w := by
  intro v' hr'
  unfold execOp
  simp [ho, hr']
 split at hv
 ·rename_i s
  split at hv
  case isFalse => cases hv
  rename_i hs
  have hu := TT.GI hT hs
  simp only [Rd.val, zB, zD] at hv
  obtain ⟨r, h4, rfl⟩ := hv
  obtain ⟨c0, c1, c2, rfl⟩ := Ny h4
  have hlo := hlo 0
  have hhi := hhi (s.length : Int)
  generalize hl : blo.getD 0 = l at *
  generalize hh : bhi.getD (s.length : Int) = hv' at *
  generalize hxv : a.eval x = xv at *
  generalize hdd : D.str s = dd at hr
  cases hr with
  | int => cases hdd
  | bool => cases hdd
  | nil => cases hdd
  | emp => cases hdd
  | list => cases hdd
  | str v =>
   cases hdd
   rw [lQ] at c2 hhi
   have hsb := bZ (P := P) (w := w) false v.size v.size (lo.map a.eval) (hi.map a.eval) l hv' hlo hhi c0 c1 c2
   refine aJ (v := .string (v.extract l.toNat hv'.toNat)) (w' := w) (run ?_) (hK _ _ _ (h.dst (av := .v (.one (.d (.str _)))) ?_))
   ·simp [Instr.sliceAt, Instr.slice, run_underlying hu, hsb]
   ·have e : (v.data.toList.take hv'.toNat).drop l.toNat = (v.extract l.toNat hv'.toNat).data.toList := by
     simp [List.drop_take]
    rw [e]
    exact Rep.str _
 ·rename_i t xs
  split at hv
  case isFalse => cases hv
  rename_i ht
  obtain ⟨e, inf, z, hu, hi', hsz, _⟩ := TT.gY hT ht
  simp only [Rd.val, zB, zD] at hv
  obtain ⟨r, h4, rfl⟩ := hv
  obtain ⟨v', h5, h6⟩ := Dh (P := P) hr hu hi' hsz (hlo 0) (hhi xs.length) h4
  exact aJ (run h5) (hK _ _ _ (h.dst h6))
 ·rename_i k j
  by_cases hpre : adw E o = true
  ·rw [if_pos hpre] at hv
   unfold Y9 at hv
   split at hv
   case h_3 => cases hv
   case h_2 hh =>
    simp only [Rd.val] at hv
    split at hv
    case h_2 => cases hv
    rename_i t xs deep mm hown
    split at hv
    case isFalse => cases hv
    rename_i ht
    obtain ⟨e, inf, z, hu, hi', hsz, _⟩ := TT.gY hT ht
    simp only [Rd.val, zB, zD] at hv
    obtain ⟨m, h4, rfl⟩ := hv
    have hmn : hh = (m : Int) /\ m <= xs.length := by
     unfold cutAt at h4
     split at h4
     ·rename_i hc; cases h4; omega
     ·cases h4
    obtain ⟨rfl, hml⟩ := hmn
    have hlo0 := hlo 0
    simp only [Option.getD_some] at hlo0
    have hlo1 : ∃ k, lo.map a.eval = some (.int k (m : Int)) := by
     rcases hlo0 with ⟨q, q2⟩ | q
     ·cases lo with
      | none => simp [eff.bnd, Rd.val] at h2
      | some x => simp at q
     ·exact q
    have hhi1 : hi.map a.eval = none := by
     cases hi with
     | none => rfl
     | some x =>
      simp only [eff.bnd, Rd.ak, zB, Rd.val, zD] at h3
      obtain ⟨_, _, _, _, h3⟩ := h3
      cases h3
    have hO := h.owns k j
    rw [hown] at hO
    rcases hO with ⟨ev, rfl⟩ | ⟨b, cap, arr, E0, vs, fps, ev, _, hcap, _⟩
    ·have hm0 : m = 0 := by simpa using hml
     subst hm0
     have hsb := bZ (P := P) (w := w) true 0 0 (lo.map a.eval) (hi.map a.eval) 0 0 (.inr hlo1) (.inl ⟨hhi1, rfl⟩) (by omega) (by omega) (by omega)
     refine aJ (v := .slice none 0 0) (run ?_) (hK _ _ _ (h.dst (av := .suf t k j 0) ⟨hr.1, fun w' S' xs' hx => by rw [ev] at hx; exact hx⟩))
     rw [hr.2.1, ev]
     simp only [Int.toNat_zero] at hsb
     simp [Instr.sliceAt, Instr.slice, run_underlying hu, hsb, sizeOf, typeInfo, hi']
    ·have hsb := bZ (P := P) (w := w) true xs.length cap (lo.map a.eval) (hi.map a.eval) m xs.length (.inr hlo1) (.inl ⟨hhi1, rfl⟩) (by omega) (by omega) (by omega)
     refine aJ (v := .slice (some ⟨b, if cap = m then 0 else m * t.size, none⟩) (xs.length - m) (cap - m)) (run ?_) (hK _ _ _ (h.dst (av := .suf t k j m) ⟨hr.1, fun w' S' xs' hx => ?_⟩))
     ·rw [hr.2.1, ev]
      simp only [Int.toNat_natCast] at hsb
      by_cases hcm : cap = m
      ·subst hcm
       simp [Instr.sliceAt, Instr.slice, run_underlying hu, hsb, sizeOf, typeInfo, hi']
      ·simp [Instr.sliceAt, Instr.slice, run_underlying hu, hsb, sizeOf, typeInfo, hi', hcm, addr_add, hsz]
     ·rw [ev] at hx
      generalize hdd : D.list t xs' = dd at hx
      generalize hvv : Value.slice (some ⟨b, 0, none⟩) xs.length cap = vv at hx
      cases hx with
      | int => cases hdd
      | bool => cases hdd
      | str => cases hdd
      | nil => cases hvv
      | emp t' ad cap' =>
       cases hdd
       simp only [Value.slice.injEq, zD] at hvv
       obtain ⟨rfl, hle, rfl⟩ := hvv
       have hm0 : m = 0 := by omega
       subst hm0
       simp only [List.drop_nil, Nat.zero_mul, ite_self, Nat.sub_zero]
       rw [hle]
       exact Rep.emp _ _ _
      | list t' xs2 b' off cap' vs' hcap' hc' hrr' =>
       cases hdd
       simp only [Value.slice.injEq, zD, Addr.mk.injEq] at hvv
       obtain ⟨⟨rfl, rfl, _⟩, hle, rfl⟩ := hvv
       by_cases hmx : m = xs.length
       ·have e0 : xs'.drop m = [] := List.drop_eq_nil_of_le (by omega)
        rw [e0, show xs.length - m = 0 by omega]
        exact .emp _ _ _
       ·have hcm : cap ≠ m := by omega
        rw [if_neg hcm]
        have e1 : xs.length - m = (xs'.drop m).length := by rw [List.length_drop]; omega
        rw [e1]
        refine .list t (xs'.drop m) b (m * t.size) (cap - m) (fun i j => vs' (m + i) j) (by rw [List.length_drop]; omega) (fun i x j d hx hd => ?_) (fun i x j d hx hd => ?_)
        ·rw [List.getElem?_drop] at hx
         have := hc' _ _ _ _ hx hd
         rw [Nat.add_mul] at this
         simpa [Nat.add_assoc] using this
        ·rw [List.getElem?_drop] at hx
         exact hrr' _ _ _ _ hx hd
   rename_i hh
   simp only [Rd.val] at hv
   split at hv
   case h_2 => cases hv
   rename_i t xs deep hown
   split at hv
   case isFalse => cases hv
   rename_i ht
   obtain ⟨e, inf, z, hu, hi', hsz, _⟩ := TT.gY hT ht
   simp only [Rd.val, zB, zD] at hv
   obtain ⟨m, h4, rfl⟩ := hv
   have hmn : hh = (m : Int) /\ m <= xs.length := by
    unfold cutAt at h4
    split at h4
    ·rename_i hc; cases h4; omega
    ·cases h4
   obtain ⟨rfl, hml⟩ := hmn
   have hlo0 := hlo 0
   have hhi0 := hhi 0
   simp only [Option.getD_some, Option.getD_none] at hlo0 hhi0
   have hhi1 : ∃ k, hi.map a.eval = some (.int k (m : Int)) := by
    rcases hhi0 with ⟨q, q2⟩ | q
    ·cases hi with
     | none => simp [eff.bnd, Rd.val] at h3
     | some x => simp at q
    ·exact q
   have hO := h.owns k j
   rw [hown] at hO
   rcases hO with ⟨ev, rfl⟩ | ⟨b, cap, arr, E0, vs, fps, ev, _, hcap, _⟩
   ·have hm0 : m = 0 := by simpa using hml
    subst hm0
    have hsb := bZ (P := P) (w := w) true 0 0 (lo.map a.eval) (hi.map a.eval) 0 0 (hlo0.imp (fun q => ⟨q.1, rfl⟩) id) (.inr hhi1) (by omega) (by omega) (by omega)
    refine aJ (v := .slice none 0 0) (run ?_) (hK _ _ _ (h.dst (av := .pre k j 0) ⟨hr.1, .inl ⟨rfl, rfl, ev⟩⟩))
    rw [hr.2.1, ev]
    simp only [Int.toNat_zero] at hsb
    simp [Instr.sliceAt, Instr.slice, run_underlying hu, hsb, sizeOf, typeInfo, hi']
   ·have hsb := bZ (P := P) (w := w) true xs.length cap (lo.map a.eval) (hi.map a.eval) 0 m (hlo0.imp (fun q => ⟨q.1, rfl⟩) id) (.inr hhi1) (by omega) (by omega) (by omega)
    refine aJ (v := .slice (some ⟨b, 0, none⟩) m cap) (run ?_) (hK _ _ _ (h.dst (av := .pre k j m) ⟨hr.1, .inr ⟨b, xs.length, cap, ev, hml, rfl⟩⟩))
    rw [hr.2.1, ev]
    simp only [Int.toNat_zero, Int.toNat_natCast] at hsb
    simp [Instr.sliceAt, Instr.slice, run_underlying hu, hsb, sizeOf, typeInfo, hi', addr_add]
  rw [if_neg hpre] at hv
  simp only [Rd.val] at hv
  split at hv
  ·rename_i t xs deep m hown
   split at hv
   case isFalse => cases hv
   rename_i ht
   obtain ⟨e, inf, z, hu, hi', hsz, _⟩ := TT.gY hT ht
   simp only [Rd.val, zB, zD] at hv
   obtain ⟨r, h4, rfl⟩ := hv
   have hrep := h.BA hown [(k, j)] (by simp)
   rw [<- hr.2.1] at hrep
   obtain ⟨v', h5, h6⟩ := Dh (P := P) hrep hu hi' hsz (hlo 0) (hhi xs.length) h4
   obtain ⟨G1, h7, m7⟩ := h.NZ k j
   have h8 := h7.dst (o := o) (av := .v (.one (.d (.list t r)))) (v := v') (h6.move fun b oo hs => ⟨(m7.s b oo).2 hs, rfl⟩)
   cases m with
   | true => exact aJ (run h5) (hK _ _ _ h8)
   | false =>
    rw [Ik hown] at h8
    exact aJ (run h5) (hK _ _ _ h8)
  ·rename_i t xs hown
   split at hv
   case isFalse => cases hv
   rename_i ht
   obtain ⟨e, inf, z, hu, hi', hsz, _⟩ := TT.gY hT ht
   simp only [Rd.val, zB, zD] at hv
   obtain ⟨r, h4, rfl⟩ := hv
   have hrep := h.OO hown
   rw [<- hr.2.1] at hrep
   obtain ⟨v', h5, h6⟩ := Dh (P := P) hrep hu hi' hsz (hlo 0) (hhi xs.length) h4
   exact aJ (run h5) (hK _ _ _ (h.dst h6))
  ·cases hv
 ·rename_i t len n k1 k2
  split at hv
  case isFalse => cases hv
  rename_i ht
  obtain ⟨e, inf, z, hu, hi', hsz, _⟩ := TT.gY hT ht
  obtain ⟨hl1, hl2, hr⟩ := hr
  split at hv
  ·rename_i hh
   simp only [Rd.val, zB, zD] at hv
   obtain ⟨_, h4, rfl⟩ := hv
   split at h4
   case isFalse => cases h4
   rename_i hhn
   subst hhn
   have hlo0 := hlo 0
   have hhi0 := hhi 0
   simp only [Option.getD_some, Option.getD_none] at hlo0 hhi0
   have hhi1 : ∃ k, hi.map a.eval = some (.int k (n : Int)) := by
    rcases hhi0 with ⟨q, q2⟩ | q
    ·cases hi with
     | none => simp [eff.bnd, Rd.val] at h3
     | some x => simp at q
    ·exact q
   rcases hr with ⟨hv0, hn0, o1, o2⟩ | ⟨b, cap, hv0, hlc, hnl, o1, o2⟩
   ·subst hn0
    have hsb := bZ (P := P) (w := w) true 0 0 (lo.map a.eval) (hi.map a.eval) 0 0 (hlo0.imp (fun q => ⟨q.1, rfl⟩) id) (.inr hhi1) (by omega) (by omega) (by omega)
    refine aJ (v := .slice none 0 0) (run ?_) (hK _ _ _ (h.dst (av := .seg k1) ⟨hl1, o1.symm⟩))
    rw [hv0]
    simp only [Int.toNat_zero] at hsb
    simp [Instr.sliceAt, Instr.slice, run_underlying hu, hsb, sizeOf, typeInfo, hi']
   ·have hsb := bZ (P := P) (w := w) true len cap (lo.map a.eval) (hi.map a.eval) 0 n (hlo0.imp (fun q => ⟨q.1, rfl⟩) id) (.inr hhi1) (by omega) (by omega) (by omega)
    refine aJ (v := .slice (some ⟨b, 0, none⟩) n cap) (run ?_) (hK _ _ _ (h.dst (av := .seg k1) ⟨hl1, o1.symm⟩))
    rw [hv0]
    simp only [Int.toNat_zero, Int.toNat_natCast] at hsb
    simp [Instr.sliceAt, Instr.slice, run_underlying hu, hsb, sizeOf, typeInfo, hi', addr_add]
  ·rename_i l
   simp only [Rd.val, zB, zD] at hv
   obtain ⟨_, h4, rfl⟩ := hv
   split at h4
   case isFalse => cases h4
   rename_i hln
   subst hln
   have hlo0 := hlo 0
   have hlo1 : ∃ k, lo.map a.eval = some (.int k (n : Int)) := by
    rcases hlo0 with ⟨q, q2⟩ | q
    ·cases lo with
     | none => simp [eff.bnd, Rd.val] at h2
     | some x => simp at q
    ·exact q
   have hhi1 : hi.map a.eval = none := by
    cases hi with
    | none => rfl
    | some x =>
     simp only [eff.bnd, Rd.ak, zB, Rd.val, zD] at h3
     obtain ⟨_, _, _, _, h3⟩ := h3
     cases h3
   rcases hr with ⟨hv0, hn0, o1, o2⟩ | ⟨b, cap, hv0, hlc, hnl, o1, o2⟩
   ·subst hn0
    have hsb := bZ (P := P) (w := w) true 0 0 (lo.map a.eval) (hi.map a.eval) 0 0 (.inr hlo1) (.inl ⟨hhi1, rfl⟩) (by omega) (by omega) (by omega)
    refine aJ (v := .slice none 0 0) (run ?_) (hK _ _ _ (h.dst (av := .seg k2) ⟨hl2, o2.symm⟩))
    rw [hv0]
    simp only [Int.toNat_zero] at hsb
    simp [Instr.sliceAt, Instr.slice, run_underlying hu, hsb, sizeOf, typeInfo, hi']
   ·have hsb := bZ (P := P) (w := w) true len cap (lo.map a.eval) (hi.map a.eval) n len (.inr hlo1) (.inl ⟨hhi1, rfl⟩) (by omega) (by omega) (by omega)
    refine aJ (v := .slice (some ⟨b, if cap = n then 0 else n * t.size, none⟩) (len - n) (cap - n)) (run ?_) (hK _ _ _ (h.dst (av := .seg k2) ⟨hl2, o2.symm⟩))
    rw [hv0]
    simp only [Int.toNat_natCast] at hsb
    by_cases hcn : cap = n
    ·subst hcn
     simp [Instr.sliceAt, Instr.slice, run_underlying hu, hsb, sizeOf, typeInfo, hi', addr_add]
    ·simp [Instr.sliceAt, Instr.slice, run_underlying hu, hsb, sizeOf, typeInfo, hi', addr_add, hcn, hsz]
  ·cases hv
 ·cases hv
end ops
end Go.Abs
namespace Go.Abs
open Go.RowKit
def callable (P : Program) (f : FuncId) : Bool := match P.funcs[f]? with
 | some fn => !(fn.name == "runtime.NumGoroutine") && fn.body.isSome
 | none => false
abbrev Off (F : Nat -> Prop) (w w' : World) : Prop := lS F w.heap.size w w'
def qA (w : World) (s : Sh) (x : s.t.den) (u : Value) (fps : Nat -> Nat -> Prop) : Prop :=
 ShR (fun i d v => Ow w (fun _ _ => False) true d v (fps i)) 0 s x u
def nH (P : Program) (m : Msp) : Prop := ∀ (w : World) (u : Value) (x : m.sh.t.den) (n : Int) (r : m.sh.t.den × Int) (fps : Nat -> Nat -> Prop), m.fn x n = some r -> amb w ->
 qA w m.sh x u fps -> (∀ i c, fps i c -> oD <= c /\ c < w.heap.size) -> (∀ i i' c, fps i c -> fps i' c -> i = i') ->
 Calls P m.fid #[u, .int .i64 n] w fun e w' => e = .returned (.int .i64 r.2) /\ Off (fun c => ∃ i, fps i c) w w' /\ qA w' m.sh r.1 u fps
def CU (P : Program) (s : Srt) : Prop := ∀ (w : World) (S : Nat -> Nat -> Prop) (deep : Bool) (bb : Nat) (E : TypeId) (u : Value) (xs ys : List s.t.den) (fp : Nat -> Prop), s.fn xs = some ys -> amb w ->
 OwT w S deep true s.t xs u fp -> (∀ c, fp c -> c < w.heap.size) -> (∀ b o, S b o -> b < w.heap.size) -> w.heap[bb]? = some (.cells #[u] E (0, 0)) -> ¬ fp bb ->
 Calls P s.fid #[.iface s.T u, .func (.func s.g) #[] #[.pointer (some ⟨bb, 0, none⟩)]] w fun e w' => e = .returned (.tuple #[]) /\ Off (fun c => fp c /\ ∀ o, ¬ S c o) w w' /\ OwT w' S deep true s.t ys u fp
theorem aO.get {R : Nat -> D -> Value -> Prop} : ∀ {n : Nat} {ds : List D} {vs : List Value}, aO R n ds vs -> ds.length = vs.length /\ ∀ (i : Nat) (d : D) (v : Value), ds[i]? = some d -> vs[i]? = some v -> R (n + i) d v
 | n, [], [], _ => ⟨rfl, fun i d v h => by simp at h⟩
 | n, d :: ds, v :: vs, h => by
  obtain ⟨hl, hg⟩ := aO.get h.2
  refine ⟨by simp [hl], fun i d' v' hd hv => ?_⟩
  cases i with
  | zero => simp at hd hv; subst hd; subst hv; exact h.1
  | succ i => simp at hd hv; have := hg i d' v' hd hv; rwa [show n + 1 + i = n + (i + 1) by omega] at this
theorem QW : ∀ (ws : List W), (∀ x, x ∈ ws -> ∃ k j y, x = .upd k j y) -> ∀ (S : St), (S.puts ws).tmps = S.tmps /\ (S.puts ws).boxes = S.boxes /\ (S.puts ws).owns.length = S.owns.length /\
  (∀ k, ((S.puts ws).aC k).length = (S.aC k).length) /\
  ∀ k j, (k < S.owns.length -> j < (S.aC k).length -> (∃ y, W.upd k j y ∈ ws) -> ∃ y, W.upd k j y ∈ ws /\ aU ((S.puts ws).aC k) j = y) /\ ((∀ y, W.upd k j y ∉ ws) -> aU ((S.puts ws).aC k) j = aU (S.aC k) j)
 | [], _, S => ⟨rfl, rfl, rfl, fun _ => rfl, fun k j => ⟨fun _ _ ⟨y, hy⟩ => (by cases hy), fun _ => rfl⟩⟩
 | x :: r, hw, S => by
  obtain ⟨k0, j0, y0, rfl⟩ := hw x List.mem_cons_self
  let S1 : St := S.bM k0 ((S.aC k0).set j0 y0)
  obtain ⟨e1, e2, e3, e4, e5⟩ := QW r (fun z hz => hw z (List.mem_cons_of_mem _ hz)) S1
  have l1 : S1.owns.length = S.owns.length := by simp [S1, St.bM]
  have l2 : ∀ k, (S1.aC k).length = (S.aC k).length := by
   intro k
   simp only [S1]
   rw [aY]
   split
   ·rename_i hk; rw [List.length_set, hk.1]
   ·rfl
  refine ⟨e1, e2, e3.trans l1, fun k => (e4 k).trans (l2 k), fun k j => ⟨fun hk hj hex => ?_, fun hn => ?_⟩⟩
  ·by_cases hr : ∃ y : O, W.upd k j y ∈ r
   ·obtain ⟨y, hy, he⟩ := (e5 k j).1 (by rw [l1]; exact hk) (by rw [l2]; exact hj) hr
    exact ⟨y, List.mem_cons_of_mem _ hy, he⟩
   ·obtain ⟨y, hy⟩ := hex
    rcases List.mem_cons.1 hy with hy | hy
    ·injection hy with q1 q2 q3
     subst q1; subst q2; subst q3
     refine ⟨_, List.mem_cons_self, ?_⟩
     show aU ((S1.puts r).aC k) j = _
     rw [(e5 k j).2 fun z hz => hr ⟨z, hz⟩]
     simp only [S1]
     rw [aY, if_pos ⟨rfl, hk⟩, fJ, if_pos ⟨rfl, hj⟩]
    ·exact absurd ⟨y, hy⟩ hr
  ·show aU ((S1.puts r).aC k) j = _
   rw [(e5 k j).2 fun z hz => hn z (List.mem_cons_of_mem _ hz)]
   simp only [S1]
   rw [aY]
   split
   ·rename_i hk
    rw [fJ]
    split
    ·rename_i hj
     exact absurd (show W.upd k j y0 ∈ W.upd k0 j0 y0 :: r by rw [hk.1, hj.1]; exact List.mem_cons_self) (hn y0)
    ·rw [hk.1]
   ·rfl
theorem Gw {S : St} : ∀ {ds : List D} {cs : List C} {ws : List W}, (vV ds cs).val S = some ws -> ds.length = cs.length /\
  (∀ x, x ∈ ws -> ∃ (k j i : Nat) (t : Ty) (xs : List t.den), x = .upd k j (.tree t xs) /\ cs[i]? = some (C.own k j) /\ ds[i]? = some (D.list t xs)) /\
  (∀ (i k j : Nat), cs[i]? = some (C.own k j) -> (∃ t xs, aU (S.aC k) j = .tree t xs) /\ ∃ (t : Ty) (xs : List t.den), W.upd k j (.tree t xs) ∈ ws) /\
  (∀ (i : Nat) (x : D), cs[i]? = some (C.d x) -> ji x = none) /\ ∀ i : Nat, cs[i]? ≠ some C.undef /\ ∀ b o, cs[i]? ≠ some (C.ptr b o)
 | [], [], ws, h => by
  simp only [vV, Rd.val, zD] at h
  subst h
  exact ⟨rfl, fun x hx => (by cases hx), fun i k j h => (by simp at h), fun i x h => (by simp at h), fun i => ⟨by simp, by simp⟩⟩
 | d :: ds, [], ws, h => by simp [vV, Rd.val] at h
 | [], c :: cs, ws, h => by simp [vV, Rd.val] at h
 | d :: ds, c :: cs, ws, h => by
  simp only [vV, Rd.ak, zB] at h
  obtain ⟨ws', h1, h2⟩ := h
  obtain ⟨i1, i2, i3, i4, i5⟩ := Gw h1
  have up : ∀ x, x ∈ ws' -> ∃ (k j i : Nat) (t : Ty) (xs : List t.den), x = .upd k j (.tree t xs) /\ (c :: cs)[i]? = some (C.own k j) /\ (d :: ds)[i]? = some (D.list t xs) := by
   intro x hx
   obtain ⟨k, j, i, t, xs, e1, e2, e3⟩ := i2 x hx
   exact ⟨k, j, i + 1, t, xs, e1, by simpa using e2, by simpa using e3⟩
  split at h2
  ·rename_i k j
   simp only [Rd.val] at h2
   split at h2
   ·rename_i t0 xs0 t xs ho
    simp only [Rd.val, zD] at h2
    subst h2
    refine ⟨by simp [i1], fun x hx => ?_, fun i k' j' hi => ?_, fun i x hi => ?_, fun i => ?_⟩
    ·rcases List.mem_cons.1 hx with rfl | hx
     ·exact ⟨k, j, 0, t, xs, rfl, rfl, rfl⟩
     ·exact up x hx
    ·cases i with
     | zero =>
      simp at hi
      obtain ⟨rfl, rfl⟩ := hi
      exact ⟨⟨t0, xs0, ho⟩, t, xs, List.mem_cons_self⟩
     | succ i =>
      obtain ⟨e1, t', xs', e2⟩ := i3 i k' j' (by simpa using hi)
      exact ⟨e1, t', xs', List.mem_cons_of_mem _ e2⟩
    ·cases i with
     | zero => simp at hi
     | succ i => exact i4 i x (by simpa using hi)
    ·cases i with
     | zero => exact ⟨by simp, by simp⟩
     | succ i => simpa using i5 i
   ·cases h2
  ·simp only [Rd.val, zD] at h2
   subst h2
   refine ⟨by simp [i1], up, fun i k' j' hi => ?_, fun i x hi => ?_, fun i => ?_⟩
   ·cases i with
    | zero => simp at hi
    | succ i => exact i3 i k' j' (by simpa using hi)
   ·cases i with
    | zero => simp at hi
    | succ i => exact i4 i x (by simpa using hi)
   ·cases i with
    | zero => exact ⟨by simp, by simp⟩
    | succ i => simpa using i5 i
  ·cases h2
  ·rename_i x0 hx0
   simp only [Rd.val, zD] at h2
   subst h2
   refine ⟨by simp [i1], up, fun i k' j' hi => ?_, fun i x hi => ?_, fun i => ?_⟩
   ·cases i with
    | zero => simp at hi
    | succ i => exact i3 i k' j' (by simpa using hi)
   ·cases i with
    | zero =>
     simp at hi
     subst hi
     cases x0 with
     | list t xs => exact absurd rfl (hx0 t xs)
     | _ => rfl
    | succ i => exact i4 i x (by simpa using hi)
   ·cases i with
    | zero => exact ⟨by simp, by simp⟩
    | succ i => simpa using i5 i
  ·cases h2
section ops
variable {P : Program} {w0 : Bs} {G : Gh} {S : St} {a : Act} {w : World} {o : Oper} {K : Act -> World -> Prop} {Q : Exit -> Act -> World -> Prop}
theorem jq {c : Call} {f : FuncId} (ho : o.op = .call c) (hc : c.callee = .value (.func f)) (hf : callable P f = true) :
  (execOp a.eval o).run P w = .ok (.enter f (c.args.map a.eval)) w := by
 unfold callable at hf
 split at hf
 ·rename_i fn hfn
  simp only [zI, Bool.not_eq_true'] at hf
  have hn : ¬ fn.name = "runtime.NumGoroutine" := by simpa using hf.1
  have hb : ¬ fn.body = none := by
   have := hf.2
   cases hbb : fn.body <;> simp_all
  unfold execOp
  simp [ho, resolve, hc, Act.eval, Deferred.ofValue, invoke, callFunc, hfn, hn, hb]
 ·cases hf
def tfp (G : Gh) (S : St) (w : World) (k j : Nat) (b : Nat) : Prop :=
 ∃ t xs fp, aU (S.aC k) j = .tree t xs /\ (∀ b, fp b -> eH G k j b) /\ Ow w (fun _ _ => False) true (.list t xs) (G.ov k j) fp /\ (∀ b o, G.S b o -> ¬ fp b) /\ fp b
theorem adB (h : Inv w0 G S a w) {k j : Nat} {t : Ty} {xs : List t.den} (ho : aU (S.aC k) j = .tree t xs) : Ow w (fun _ _ => False) true (.list t xs) (G.ov k j) (tfp G S w k j) := by
 have := h.owns k j
 rw [ho] at this
 obtain ⟨fp, h1, h2, h3⟩ := this
 exact h2.sub (fun b hb => ⟨t, xs, fp, ho, h1, h2, h3, hb⟩) fun e => e
theorem JW (h : Inv w0 G S a w) {all : List C} (hall : ∀ (i : Nat) (k j : Nat), all[i]? = some (.own k j) -> ∃ t xs, aU (S.aC k) j = .tree t xs) (hsc : ∀ (i : Nat) (x : D), all[i]? = some (.d x) -> ji x = none) :
  ∀ {tys : List (Option Ty)} {cs : List C} {ds : List D} {vs : List Value} {n : Nat} {pre : List C}, (cDs tys cs).val S = some ds ->
  tys.length = cs.length -> bY G w cs vs -> all = pre ++ cs -> pre.length = n -> aO (fun i d v => Ow w (fun _ _ => False) true d v (fun b => ∃ k j, all[i]? = some (.own k j) /\ tfp G S w k j b)) n ds vs
 | [], [], ds, [], n, pre, hd, _, _, _, _ => by
  simp only [cDs, Rd.val, zD] at hd; subst hd; trivial
 | [], [], ds, _ :: _, n, pre, _, _, hc, _, _ => hc.elim
 | [], _ :: _, ds, vs, n, pre, _, hl, _, _, _ => by simp at hl
 | _ :: _, [], ds, vs, n, pre, _, hl, _, _, _ => by simp at hl
 | ty :: tys, c :: cs, ds, [], n, pre, _, _, hc, _, _ => hc.elim
 | ty :: tys, c :: cs, ds, v :: vs, n, pre, hd, hl, hc, ha, hp => by
  simp only [cDs, Rd.ak, zB, Rd.val, zD] at hd
  obtain ⟨d, h1, ds', h2, rfl⟩ := hd
  have hn : all[n]? = some c := by
   rw [ha, List.getElem?_append_right (by omega), hp]; simp
  refine ⟨?_, JW h hall hsc (pre := pre ++ [c]) h2 (by simpa using hl) hc.2 (by rw [ha]; simp) (by simp [hp])⟩
  have hcr := hc.1
  cases c with
  | undef => cases h1
  | ptr => cases h1
  | nil =>
   simp only [cD] at h1
   split at h1
   ·simp only [Rd.val, zD] at h1
    subst h1
    rw [show v = _ from hcr]
    exact .nil _ _
   ·cases h1
  | d x =>
   simp only [cD, Rd.val, zD] at h1
   subst h1
   have := hsc n x hn
   have hcr' : Rep w G.S x v := hcr
   cases hcr' with
   | int k n => exact .int k n _
   | bool b => exact .bool b _
   | str s => exact .str s _
   | nil => cases this
   | emp => cases this
   | list => cases this
  | own k j =>
   obtain ⟨t, xs, ho⟩ := hall n k j hn
   simp only [cD, Rd.val, ho, zD] at h1
   subst h1
   rw [hcr.2.1]
   exact (adB h ho).sub (fun b hb => ⟨k, j, hn, hb⟩) fun e => e
theorem abk (h : Inv w0 G S a w) {c : Call} {f : FuncId} (ho : o.op = .call c) (hc : c.callee = .value (.func f)) {m : Msp} (hf : m.fid = f) (hcall : callable P f = true) (hA : jX w0) (hM : nH P m) {x y : Operand} (hxy : c.args.toList = [x, y]) {ws : List W}
  (hv : ((dn x).bind fun ax => (avV ax).bind fun v => (dn y).bind fun ay => (avD ay).bind fun
        | .int .i64 n => (vT m.sh v).bind fun z => .opt (m.fn z n) fun r =>
         if nodupB (aI v.cells) then (vV (m.sh.t.cells r.1) v.cells).bind fun ws => .ret (ws ++ dR o (.v (.one (.d (.int .i64 r.2)))))
         else .fail
        | _ => .fail).val S = some ws)
  (hK : ∀ a' w' G', Inv w0 G' (S.puts ws) a' w' -> K a' w') : o.wp P a w K Q := by
 simp only [Rd.ak, zB] at hv
 obtain ⟨ax, h1, v, h2, ay, h3, d, h4, hv⟩ := hv
 have hyr := jW h4 (aS h h3)
 split at hv
 case h_2 => cases hv
 rename_i n
 simp only [Rd.ak, zB] at hv
 obtain ⟨z, h5, hv⟩ := hv
 simp only [Rd.val, zB] at hv
 obtain ⟨r, h6, hv⟩ := hv
 split at hv
 case isFalse => cases hv
 rename_i hnd
 simp only [Rd.ak, zB, Rd.val, zD] at hv
 obtain ⟨ws', h8, rfl⟩ := hv
 have hxr := lZ h2 (aS h h1)
 obtain ⟨t1, t2, t3, t4, t5⟩ := Gw h8
 have hyv : a.eval y = .int .i64 n := by
  generalize a.eval y = yv at hyr
  cases hyr; rfl
 -- the tree
 let fps : Nat -> Nat -> Prop := fun i b => ∃ k j, v.cells[i]? = some (.own k j) /\ tfp G S w k j b
 have hT : qA w m.sh z (a.eval x) fps := by
  simp only [vT] at h5
  split at h5
  ·rename_i hg
   simp only [Rd.ak, zB, Rd.val] at h5
   obtain ⟨ds, h9, z', h10, h11⟩ := h5
   simp only [zD] at h11
   subst h11
   obtain ⟨vs, hcs, ha1, hb1⟩ := hxr.cells
   have := JW h (all := v.cells) (fun i k j hi => (t3 i k j hi).1) t4 (pre := []) h9 (by rw [lg]; exact hg.2.symm) hcs rfl rfl
   rw [<- Ty.bV h10] at this
   unfold qA ShR
   cases hs : m.sh.agg with
   | true => exact ⟨vs, ha1 (by rw [hg.1, hs]), this⟩
   | false => rw [hb1 (by rw [hg.1, hs])] at this; exact this
  ·cases h5
 have how : ∀ i b, fps i b -> ∃ k j, v.cells[i]? = some (.own k j) /\ G.ow b = some (.own k j) := by
  rintro i b ⟨k, j, hi, t, xs, fp, _, hfp, _, _, hb⟩
  exact ⟨k, j, hi, hfp b hb⟩
 have hlt : ∀ i c, fps i c -> c < w.heap.size := fun i b hb => by
  obtain ⟨k, j, _, ho⟩ := how i b hb
  exact (h.olt _ _ ho).2
 have hge : ∀ i c, fps i c -> oD <= c := fun i b hb => by
  obtain ⟨k, j, _, ho⟩ := how i b hb
  exact Nat.le_trans hA.base (h.kz ho).1
 have hdis : ∀ i i' c, fps i c -> fps i' c -> i = i' := fun i i' b hb hb' => by
  obtain ⟨k, j, hi, ho⟩ := how i b hb
  obtain ⟨k', j', hi', ho'⟩ := how i' b hb'
  rw [ho] at ho'
  cases ho'
  exact eX hnd hi hi'
 have hSf : ∀ b oo, G.S b oo -> ¬ ∃ i, fps i b := by
  rintro b oo hs ⟨i, k, j, _, t, xs, fp, _, _, _, hno, hb⟩
  exact hno b oo hs hb
 have hargs : c.args.map a.eval = #[a.eval x, .int .i64 n] := by
  rw [jZ hxy]; simp [hyv]
 unfold Oper.wp
 rw [jq ho hc hcall, hargs]
 subst hf
 refine Calls.mono (hM w (a.eval x) z n r fps h6 (hA.keep w h.below) hT (fun i c hc => ⟨hge i c hc, hlt i c hc⟩) hdis) fun e w' he => ?_
 obtain ⟨rfl, hoff, hT'⟩ := he
 have hcell : ∀ b oo, G.S b oo -> w'.cell? ⟨b, oo, none⟩ = w.cell? ⟨b, oo, none⟩ := fun b oo hs =>
  World.cell?_of_block (w := w) (hoff.block b (h.sok b oo hs).1 (hSf b oo hs))
 have hm : Mv G G w w' := ⟨fun b oo hs => ⟨hs, hcell b oo hs⟩, fun k hk => ⟨hk, fun _ => rfl⟩, fun i hi => ⟨hi, rfl⟩⟩
 obtain ⟨p1, p2, p3, p4, p5⟩ := QW ws' (fun x hx => by obtain ⟨k, j, i, t, xs, e, _⟩ := t2 x hx; exact ⟨k, j, _, e⟩) S
 have hgT : ∀ i, (S.puts ws').gq i = S.gq i := fun i => by simp only [St.gq, p1]
 have hgB : ∀ i, (S.puts ws').dP i = S.dP i := fun i => by simp only [St.dP, p2]
 have h9 : Inv w0 G (S.puts ws') a w' := by
  have hblk : ∀ k, k < w0.w.heap.size -> w'.heap[k]? = w.heap[k]? := fun k hk => hoff.block k (by have := h.below.size; omega) (by
   rintro ⟨i, hi⟩
   obtain ⟨k', j', _, ho'⟩ := how i k hi
   have := (h.kz ho').1
   omega)
  refine ⟨h.below.trans ⟨hoff.os, hoff.tape, hoff.output, hoff.size, fun k hk _ => hblk k hk⟩, h.nodef, by rw [p1]; exact h.tsz, by rw [p1, p2]; exact h.bsz, by rw [p1, p3]; exact h.osz, fun i u hu => ?_, ?_, ?_, ?_, ?_, ?_, ?_, h.sfr, fun b hx => ⟨(h.fx b hx).1, fun hl => ((h.fx b hx).2 hl).same (hblk b hl)⟩⟩
  ·rw [hgT]; exact (h.tmps i u hu).move hm
  ·intro b x hx; exact ⟨(h.olt b x hx).1, Nat.lt_of_lt_of_le (h.olt b x hx).2 hoff.size⟩
  ·intro b oo hs; exact ⟨Nat.lt_of_lt_of_le (h.sok b oo hs).1 hoff.size, (h.sok b oo hs).2⟩
  ·intro i cs hcs
   rw [hgB] at hcs
   obtain ⟨ho', vs, E, hh, hc'⟩ := h.box i cs hcs
   refine ⟨ho', vs, E, (hoff.block _ (h.olt _ _ ho').2 ?_).trans hh, hc'.move hm⟩
   rintro ⟨i', hi'⟩
   obtain ⟨k', j', _, ho2⟩ := how i' _ hi'
   rw [ho'] at ho2
   cases ho2
  ·intro k j
   by_cases hex : ∃ y, W.upd k j y ∈ ws'
   ·obtain ⟨y0, hy0⟩ := hex
    obtain ⟨k0, j0, i0, t0, xs0, e0, hi0, _⟩ := t2 _ hy0
    cases e0
    obtain ⟨⟨tt0, xx0, htree⟩, _⟩ := t3 i0 k j hi0
    have hjl : j < (S.aC k).length := by
     rcases Nat.lt_or_ge j (S.aC k).length with hl | hl
     ·exact hl
     ·have : aU (S.aC k) j = .dead := by
       simp only [aU, zE]
       rw [zJ (by omega)]; rfl
      rw [this] at htree; cases htree
    have hkl : k < S.owns.length := by
     rcases Nat.lt_or_ge k S.owns.length with hl | hl
     ·exact hl
     ·have hg0 : S.aC k = [] := by
       simp only [St.aC, zE]
       rw [zJ (by omega)]; rfl
      rw [hg0] at htree; cases htree
    obtain ⟨y, hy, he⟩ := (p5 k j).1 hkl hjl ⟨_, hy0⟩
    obtain ⟨k1, j1, i1, t', xs', e1, hi1, hd1⟩ := t2 _ hy
    cases e1
    rw [he]
    have hii : i1 = i0 := eX hnd hi1 hi0
    subst hii
    refine ⟨fps i1, fun b hb => ?_, ?_, fun b oo hs hb => hSf b oo hs ⟨i1, hb⟩⟩
    ·obtain ⟨k', j', hi', ho'⟩ := how i1 b hb
     rw [hi1] at hi'
     cases hi'
     exact ho'
    ·-- the value of the cell
     obtain ⟨vs, hcs, ha1, hb1⟩ := hxr.cells
     obtain ⟨hl2, hg2⟩ := hcs.get
     have hi1l : i1 < vs.length := by
      have := (zC.1 hi1).1; omega
     have hcr := hg2 i1 _ vs[i1] hi1 (by simp [hi1l])
     have hval : vs[i1] = G.ov k j := hcr.2.1
     have hcells : aO (fun i d v => Ow w' (fun _ _ => False) true d v (fps i)) 0 (m.sh.t.cells r.1) vs := by
      simp only [vT] at h5
      split at h5
      ·rename_i hg
       unfold qA ShR at hT'
       cases hs : m.sh.agg with
       | true =>
        rw [hs] at hT'
        obtain ⟨vs', e1, e2⟩ := hT'
        rw [ha1 (by rw [hg.1, hs])] at e1
        have : vs' = vs := by
         injection e1 with e1
         have := congrArg Array.toList e1
         simpa using this.symm
        rw [<- this]; exact e2
       | false =>
        rw [hs] at hT'
        rw [hb1 (by rw [hg.1, hs])]; exact hT'
      ·cases h5
     obtain ⟨hl3, hg3⟩ := hcells.get
     have := hg3 i1 _ vs[i1] hd1 (by simp [hi1l])
     rw [Nat.zero_add, hval] at this
     exact this
   ·rw [(p5 k j).2 fun y hy => hex ⟨y, hy⟩]
    have hnk : ∀ i b, fps i b -> G.ow b ≠ some (.own k j) := by
     intro i b hb hob
     obtain ⟨k', j', hi', ho'⟩ := how i b hb
     rw [hob] at ho'
     cases ho'
     obtain ⟨_, t', xs', hu⟩ := t3 i k j hi'
     exact hex ⟨_, hu⟩
    have keep : ∀ b, eH G k j b -> w'.heap[b]? = w.heap[b]? := fun b hb => hoff.block b (h.olt _ _ hb).2 fun ⟨i, hi⟩ => hnk i b hi hb
    exact (h.owns k j).same rfl hm.s (fun t xs deep m hx => ⟨fun b hb => ⟨hb, keep b hb⟩, fun _ _ _ _ _ oo hs => .inl hs⟩) fun t xs hx b hb => ⟨hb, keep b hb, fun oo hs => hs⟩
  ·intro k hk e
   have : ((S.puts ws').aC k).length = 0 := by rw [e]; rfl
   rw [p4] at this
   exact h.lk k hk (List.eq_nil_of_length_eq_zero this)
  ·intro i hi; rw [hgB]; exact h.lb i hi
 refine hK _ _ G ?_
 rw [dM]
 exact h9.dst (av := .v (.one (.d (.int .i64 r.2)))) (Rep.int _ _)
theorem Q5 (h : Inv w0 G S a w) {k j : Nat} {t : Ty} {xs ys : List t.den} {deep : Bool} (ho : aU (S.aC k) j = .own t xs deep true) {w' : World}
  (hoff : Off (fun c => eH G k j c /\ ∀ o, ¬ G.S c o) w w') (hy : OwT w' G.S deep true t ys (G.ov k j) (eH G k j)) : Inv w0 G (S.puts [.upd k j (.own t ys deep true)]) a w' := by
 have hcell : ∀ b oo, G.S b oo -> w'.cell? ⟨b, oo, none⟩ = w.cell? ⟨b, oo, none⟩ := fun b oo hs =>
  World.cell?_of_block (w := w) (hoff.block b (h.sok b oo hs).1 fun hf => hf.2 oo hs)
 have hm : Mv G G w w' := ⟨fun b oo hs => ⟨hs, hcell b oo hs⟩, fun k hk => ⟨hk, fun _ => rfl⟩, fun i hi => ⟨hi, rfl⟩⟩
 have hjl : j < (S.aC k).length := by
  rcases Nat.lt_or_ge j (S.aC k).length with hl | hl
  ·exact hl
  ·have : aU (S.aC k) j = .dead := by
    simp only [aU, zE]
    rw [zJ (by omega)]; rfl
   rw [this] at ho; cases ho
 have hkl : k < S.owns.length := by
  rcases Nat.lt_or_ge k S.owns.length with hl | hl
  ·exact hl
  ·have hg0 : S.aC k = [] := by
    simp only [St.aC, zE]
    rw [zJ (by omega)]; rfl
   rw [hg0] at ho; cases ho
 have hg : ∀ k', (S.bM k ((S.aC k).set j (.own t ys deep true))).aC k' = if k' = k then (S.aC k).set j (.own t ys deep true) else S.aC k' := fun k' => by
  simp only [St.bM, St.aC, zE, List.getElem?_set]
  by_cases e : k = k'
  ·subst e; simp [hkl]
  ·rw [if_neg e, if_neg (Ne.symm e)]
 show Inv w0 G (S.bM k ((S.aC k).set j (.own t ys deep true))) a w'
 have hblk : ∀ b, b < w0.w.heap.size -> w'.heap[b]? = w.heap[b]? := fun b hb => hoff.block b (by have := h.below.size; omega) (by
  rintro ⟨hf, _⟩
  have := (h.kz hf).1
  omega)
 refine ⟨h.below.trans ⟨hoff.os, hoff.tape, hoff.output, hoff.size, fun b hb _ => hblk b hb⟩, h.nodef, h.tsz, h.bsz, by simp [St.bM, h.osz], fun i u hu => ?_, ?_, ?_, ?_, ?_, ?_, ?_, h.sfr, fun b hx => ⟨(h.fx b hx).1, fun hl => ((h.fx b hx).2 hl).same (hblk b hl)⟩⟩
 ·exact (h.tmps i u hu).move hm
 ·intro b x hx; exact ⟨(h.olt b x hx).1, Nat.lt_of_lt_of_le (h.olt b x hx).2 hoff.size⟩
 ·intro b oo hs; exact ⟨Nat.lt_of_lt_of_le (h.sok b oo hs).1 hoff.size, (h.sok b oo hs).2⟩
 ·intro i cs hcs
  obtain ⟨ho', vs, E, hh, hc'⟩ := h.box i cs hcs
  refine ⟨ho', vs, E, (hoff.block _ (h.olt _ _ ho').2 ?_).trans hh, hc'.move hm⟩
  rintro ⟨hf, _⟩
  have hf : G.ow (G.bk i) = some (.own k j) := hf
  rw [ho'] at hf; cases hf
 ·intro k' j'
  by_cases hkj : k' = k /\ j' = j
  ·obtain ⟨rfl, rfl⟩ := hkj
   rw [hg, if_pos rfl]
   have : aU ((S.aC k').set j' (.own t ys deep true)) j' = .own t ys deep true := by simp [aU, zE, hjl]
   rw [this]
   exact hy
  ·have e : aU ((S.bM k ((S.aC k).set j (.own t ys deep true))).aC k') j' = aU (S.aC k') j' := by
    rw [hg]
    by_cases ek : k' = k
    ·subst ek
     rw [if_pos rfl]
     simp only [aU, zE, List.getElem?_set]
     rw [if_neg fun e => hkj ⟨rfl, e.symm⟩]
    ·rw [if_neg ek]
   rw [e]
   have keep : ∀ b, eH G k' j' b -> w'.heap[b]? = w.heap[b]? := fun b hb => hoff.block b (h.olt _ _ hb).2 fun ⟨hf, _⟩ => by
    have hb : G.ow b = some (.own k' j') := hb
    have hf : G.ow b = some (.own k j) := hf
    rw [hb] at hf
    cases hf
    exact hkj ⟨rfl, rfl⟩
   exact (h.owns k' j').same rfl hm.s (fun t xs deep m hx => ⟨fun b hb => ⟨hb, keep b hb⟩, fun _ _ _ _ _ oo hs => .inl hs⟩) fun t xs hx b hb => ⟨hb, keep b hb, fun oo hs => hs⟩
 ·intro k' hk e
  have : S.aC k' = [] := by
   rw [hg] at e
   by_cases ek : k' = k
   ·subst ek
    rw [if_pos rfl] at e
    have := congrArg List.length e
    rw [List.length_set] at this
    simp at this
    rw [this] at hjl; simp at hjl
   ·rw [if_neg ek] at e; exact e
  exact h.lk k' hk this
 ·intro i hi; exact h.lb i hi
end ops
end Go.Abs
namespace Go.Abs
open Go.RowKit
def pack : List Value -> Value
 | [v] => v
 | vs => .tuple vs.toArray
def vF (B : Nat) (w' : World) (S : Nat -> Nat -> Prop) (ex : Bool) (rs : List Sh) (y : Tup rs) (v : Value) : Prop :=
 ∃ us : List Value, v = pack us /\ match ex with
  | true => ∃ fps : Nat -> Nat -> Prop, jb (fun i d u => Ow w' (fun _ _ => False) true d u (fps i)) 0 rs y us /\ (∀ i c, fps i c -> B <= c /\ c < w'.heap.size) /\ ∀ i i' c, fps i c -> fps i' c -> i = i'
  | false => ∃ S' : Nat -> Nat -> Prop, jb (fun _ d u => Rep w' S' d u) 0 rs y us /\ ∀ b o, S' b o -> (S b o \/ B <= b) /\ b < w'.heap.size
def Sound (P : Program) (s : Fsp) : Prop := ∀ (w : World) (S : Nat -> Nat -> Prop) (args : List Value) (x : Tup s.ps) (y : Tup s.rs), s.fn x = some y -> amb w ->
 jb (fun _ d u => Rep w S d u) 0 s.ps x args -> (∀ b o, S b o -> b < w.heap.size) ->
 Calls P s.fid args.toArray w fun e w' => ∃ v, e = .returned v /\ Below w.heap.size w w' /\ vF w.heap.size w' S s.ex s.rs y v
def FQ (w : World) (S : Nat -> Nat -> Prop) (d : D) (u : Value) (fp : Nat -> Prop) : Prop := match d with
 | .list t xs => OwT w S false true t xs u fp
 | d => Rep w S d u
def NI (B : Nat) (w' : World) (S' : Nat -> Nat -> Prop) (sh : Bool) (rs : List Sh) (y : Tup rs) (us : List Value) : Prop := match sh with
 | true => ∃ fps : Nat -> Nat -> Prop, jb (fun i d u => FQ w' S' d u (fps i)) 0 rs y us /\ (∀ i c, fps i c -> B <= c /\ c < w'.heap.size) /\ ∀ i i' c, fps i c -> fps i' c -> i = i'
 | false => jb (fun _ d u => Rep w' S' d u) 0 rs y us
def J7 (P : Program) (s : Fsp) : Prop := ∀ (w : World) (S : Nat -> Nat -> Prop) (args : List Value) (x : Tup s.ps) (y : Tup s.rs), s.fn x = some y -> amb w ->
 jb (fun _ d u => Rep w S d u) 0 s.ps x args -> (∀ b o, S b o -> b < w.heap.size) ->
 Calls P s.fid args.toArray w fun e w' => ∃ v, e = .returned v /\ Below w.heap.size w w' /\ ∃ (S' : Nat -> Nat -> Prop) (us : List Value), v = pack us /\ NI w.heap.size w' S' true s.rs y us /\
  ∀ b o, S' b o -> (S b o \/ w.heap.size <= b) /\ b < w'.heap.size
def adz (B : Nat) (w' : World) (rs : List Sh) (y : Tup rs) (us : List Value) : Prop :=
 ∃ fps : Nat -> Nat -> Prop, jb (fun i d u => Ow w' (fun _ _ => False) true d u (fps i)) 0 rs y us /\ (∀ i c, fps i c -> B <= c /\ c < w'.heap.size) /\ ∀ i i' c, fps i c -> fps i' c -> i = i'
def ab7 (B : Nat) (w' : World) (S : Nat -> Nat -> Prop) (bb : Nat) (ex sh : Bool) : (rs : List Sh) -> Tup rs -> Value -> Prop
 | [], _, _ => False
 | c :: rs, y, v => ∃ (S' : Nat -> Nat -> Prop) (vs' : List Value) (Et : TypeId) (us : List Value), v = pack us /\ w'.heap[bb]? = some (.cells vs'.toArray Et (0, 0)) /\
   aO (fun _ d u => Rep w' S' d u) 0 (c.t.cells (vU y)) vs' /\ (match ex with
    | true => adz B w' rs (Mc y) us
    | false => NI B w' S' sh rs (Mc y) us) /\ ∀ b o, S' b o -> (S b o \/ (ex = false /\ B <= b)) /\ b < w'.heap.size
def eP (P : Program) (s : Fsp) : Prop := ∀ (w : World) (S : Nat -> Nat -> Prop) (bb : Nat) (vs : List Value) (Et : TypeId) (args : List Value) (x : Tup s.ps) (y : Tup s.rs), s.fn x = some y -> amb w -> oD <= bb ->
 w.heap[bb]? = some (.cells vs.toArray Et (0, 0)) -> jb (fun _ d u => Rep w S d u) 0 s.ps x (.agg vs.toArray :: args) -> (∀ b o, S b o -> b < w.heap.size /\ b ≠ bb) ->
 Calls P s.fid (Value.pointer (some ⟨bb, 0, none⟩) :: args).toArray w fun e w' => ∃ v, e = .returned v /\ lS (fun c => c = bb) w.heap.size w w' /\ qC w w' bb /\ ab7 w.heap.size w' S bb s.ex s.sh s.rs y v
def Vt (P : Program) (s : Fsp) : Prop := ∀ (w : World) (S : Nat -> Nat -> Prop) (args : List Value) (x : Tup s.ps) (y : Tup s.rs), s.fn x = some y -> amb w ->
 jb (fun _ d u => Rep w S d u) 0 s.ps x args -> (∀ b o, S b o -> b < w.heap.size) ->
 Calls P s.fid args.toArray w fun e w' => ∃ bb, e = .returned (.pointer (some ⟨bb, 0, none⟩)) /\ Below w.heap.size w w' /\ w.heap.size <= bb /\
  ∃ (vs' : List Value) (Et : TypeId) (S' : Nat -> Nat -> Prop), w'.heap[bb]? = some (.cells vs'.toArray Et (0, 0)) /\ aO (fun _ d u => Rep w' S' d u) 0 (dh s.rs y) vs' /\ ∀ b o, S' b o -> (S b o \/ w.heap.size <= b) /\ b < w'.heap.size /\ b ≠ bb
def En (P : Program) (s : Isp) : Prop := ∀ (w : World) (S : Nat -> Nat -> Prop) (deep : Bool) (u : Value) (xs ys : List s.t.den) (fp : Nat -> Prop), s.fn xs = some ys -> amb w ->
 OwT w S deep true s.t xs u fp -> (∀ c, fp c -> c < w.heap.size) -> (∀ b o, S b o -> b < w.heap.size) ->
 Calls P s.fid #[u] w fun e w' => e = .returned (.tuple #[]) /\ Off (fun c => fp c /\ ∀ o, ¬ S c o) w w' /\ OwT w' S deep true s.t ys u fp
def dY (P : Program) (E : Env) : Prop := E.tt.ok P = true /\ (∀ s, s ∈ E.fs -> callable P s.fid = true /\ Sound P s) /\ (∀ m, m ∈ E.ms -> callable P m.fid = true /\ nH P m) /\
 (∀ s, s ∈ E.bs -> callable P s.fid = true /\ eP P s) /\ (∀ s, s ∈ E.ns -> callable P s.fid = true /\ Vt P s) /\ (∀ s, s ∈ E.ss -> callable P s.fid = true /\ J7 P s) /\
 (∀ s, s ∈ E.so -> callable P s.fid = true /\ CU P s /\ ∃ d, P.underlying s.T = some d /\ ∀ ms, d ≠ .interface ms) /\
 ∀ s, s ∈ E.is -> callable P s.fid = true /\ En P s
def vO (P : Program) (E : Env) (w0 : Bs) : Prop := E.tt.ok P = true /\ (∀ s, s ∈ E.fs -> callable P s.fid = true /\ Sound P s) /\ (∀ m, m ∈ E.ms -> callable P m.fid = true /\ nH P m) /\
 (∀ s, s ∈ E.bs -> callable P s.fid = true /\ eP P s) /\ (∀ s, s ∈ E.ns -> callable P s.fid = true /\ Vt P s) /\ (∀ s, s ∈ E.ss -> callable P s.fid = true /\ J7 P s) /\
 (∀ s, s ∈ E.so -> callable P s.fid = true /\ CU P s /\ ∃ d, P.underlying s.T = some d /\ ∀ ms, d ≠ .interface ms) /\ (∀ s, s ∈ E.is -> callable P s.fid = true /\ En P s) /\ jX w0
theorem dY.at {P : Program} {E : Env} {w0 : Bs} (h : dY P E) (ha : jX w0) : vO P E w0 := ⟨h.1, h.2.1, h.2.2.1, h.2.2.2.1, h.2.2.2.2.1, h.2.2.2.2.2.1, h.2.2.2.2.2.2.1, h.2.2.2.2.2.2.2, ha⟩
theorem vO.am {P : Program} {E : Env} {w0 : Bs} (h : vO P E w0) : jX w0 := h.2.2.2.2.2.2.2.2
theorem aO.imp {R R' : Nat -> D -> Value -> Prop} (h : ∀ i d v, R i d v -> R' i d v) : ∀ {n : Nat} {ds : List D} {vs : List Value}, aO R n ds vs -> aO R' n ds vs
 | n, [], [], _ => trivial
 | n, d :: ds, v :: vs, hh => ⟨h _ _ _ hh.1, aO.imp h hh.2⟩
theorem ShR.imp {R R' : Nat -> D -> Value -> Prop} (h : ∀ i d v, R i d v -> R' i d v) {n : Nat} {s : Sh} {x : s.t.den} {u : Value} (hh : ShR R n s x u) : ShR R' n s x u := by
 unfold ShR at *
 split at hh
 ·obtain ⟨vs, e, hc⟩ := hh; exact ⟨vs, e, hc.imp h⟩
 ·exact aO.imp h hh
theorem jb.imp {R R' : Nat -> D -> Value -> Prop} (h : ∀ i d v, R i d v -> R' i d v) : ∀ {n : Nat} {ss : List Sh} {y : Tup ss} {us : List Value}, jb R n ss y us -> jb R' n ss y us
 | n, [], y, [], _ => trivial
 | n, [s], y, [u], hh => ShR.imp h hh
 | n, s :: s' :: r, y, u :: us, hh => ⟨ShR.imp h hh.1, jb.imp h hh.2⟩
section ops
variable {P : Program} {w0 : Bs} {G : Gh} {S : St} {a : Act} {w : World} {o : Oper} {K : Act -> World -> Prop} {Q : Exit -> Act -> World -> Prop}
theorem xZ {d : Nat} {ex : Bool} {R : Nat -> D -> Value -> Prop} (hR : ∀ i x v, R i x v -> kY G w (Xv d ex i x) v) : ∀ {n : Nat} {ds : List D} {vs : List Value}, aO R n ds vs -> bY G w (EI d ex n ds) vs
 | n, [], [], _ => trivial
 | n, x :: ds, v :: vs, h => ⟨hR _ _ _ h.1, xZ hR h.2⟩
theorem QT {d : Nat} {ex : Bool} {R : Nat -> D -> Value -> Prop} (hR : ∀ i x v, R i x v -> kY G w (Xv d ex i x) v) {n : Nat} {s : Sh} {y : s.t.den} {u : Value} (h : ShR R n s y u) : pR G w (mkV' s.agg (EI d ex n (s.t.cells y))) u := by
 unfold ShR at h
 split at h
 ·rename_i hs
  obtain ⟨vs, rfl, hc⟩ := h
  rw [hs]
  exact ⟨vs, rfl, xZ hR hc⟩
 ·rename_i hs
  rw [hs]
  have hc := xZ hR h
  match hcs : EI d ex n (s.t.cells y), hc with
  | [c], hc => exact hc.1
theorem lI {d : Nat} {ex : Bool} {R : Nat -> D -> Value -> Prop} (hR : ∀ i x v, R i x v -> kY G w (Xv d ex i x) v) : ∀ {n : Nat} {ss : List Sh} {y : Tup ss} {us : List Value}, jb R n ss y us -> kL G w (ru d ex n ss y) us
 | n, [], y, [], _ => trivial
 | n, [s], y, [u], h => ⟨QT hR h, trivial⟩
 | n, s :: s' :: r, y, u :: us, h => ⟨QT hR h.1, lI hR h.2⟩
theorem oI {vs : List V} {us : List Value} (h : kL G w vs us) : iE G w (vg vs) (pack us) := by
 match vs, us, h with
 | [], [], _ => exact ⟨[], rfl, trivial⟩
 | [v], [u], h => exact oN h.1
 | v :: v' :: r, u :: u' :: r', h => exact ⟨u :: u' :: r', rfl, h⟩
def zo (s : Sh) (u : Value) : List Value := match s.agg with
 | true => u.cells.toList
 | false => [u]
def nJ : List Sh -> List Value -> List Value
 | s :: r, u :: us => zo s u ++ nJ r us
 | _, _ => []
theorem aO.app {R : Nat -> D -> Value -> Prop} {n : Nat} {ds ds' : List D} {vs vs' : List Value} (h1 : aO R n ds vs) (h2 : aO R (n + ds.length) ds' vs') : aO R n (ds ++ ds') (vs ++ vs') := by
 induction ds generalizing n vs with
 | nil => cases vs with
  | nil => simpa using h2
  | cons => exact h1.elim
 | cons d ds ih => cases vs with
  | nil => exact h1.elim
  | cons v vs => exact ⟨h1.1, ih h1.2 (by rw [show n + 1 + ds.length = n + (d :: ds).length by simp; omega]; exact h2)⟩
theorem ShR.cells {R : Nat -> D -> Value -> Prop} {n : Nat} {s : Sh} {x : s.t.den} {u : Value} (h : ShR R n s x u) : aO R n (s.t.cells x) (zo s u) := by
 unfold ShR at h
 unfold zo
 split at h
 ·rename_i hs
  obtain ⟨vs, rfl, hc⟩ := h
  rw [hs]; exact hc
 ·rename_i hs
  rw [hs]; exact h
theorem jb.cells {R : Nat -> D -> Value -> Prop} : ∀ {n : Nat} {ss : List Sh} {y : Tup ss} {us : List Value}, jb R n ss y us -> aO R n (dh ss y) (nJ ss us)
 | n, [], y, [], _ => trivial
 | n, [s], y, [u], h => by
  have h1 : ShR R n s y u := h
  show aO R n (s.t.cells y) (zo s u ++ [])
  rw [List.append_nil]; exact h1.cells
 | n, s :: s' :: r, y, u :: us, h => by
  refine aO.app h.1.cells ?_
  rw [Ty.aQ]
  exact jb.cells h.2
theorem aO.at {R : Nat -> D -> Value -> Prop} {all : List Value} : ∀ {n : Nat} {ds : List D} {vs pre post : List Value}, aO R n ds vs -> pre.length = n -> all = pre ++ vs ++ post -> aO (fun i d u => R i d u /\ all[i]? = some u) n ds vs
 | n, [], [], _, _, _, _, _ => trivial
 | n, d :: ds, v :: vs, pre, post, h, hl, ha => by
  refine ⟨⟨h.1, ?_⟩, aO.at (pre := pre ++ [v]) (post := post) h.2 (by simp [hl]) (by rw [ha]; simp)⟩
  rw [ha, List.append_assoc, List.getElem?_append_right (by omega), hl]
  simp
theorem aO.length {R : Nat -> D -> Value -> Prop} {n : Nat} {ds : List D} {vs : List Value} (h : aO R n ds vs) : ds.length = vs.length := h.get.1
theorem ShR.at {R : Nat -> D -> Value -> Prop} {all : List Value} {n : Nat} {s : Sh} {x : s.t.den} {u : Value} {pre post : List Value} (h : ShR R n s x u) (hl : pre.length = n) (ha : all = pre ++ zo s u ++ post) : ShR (fun i d u => R i d u /\ all[i]? = some u) n s x u := by
 unfold ShR at *
 unfold zo at ha
 cases hs : s.agg with
 | true =>
  rw [hs] at h ha
  obtain ⟨vs, rfl, hc⟩ := h
  exact ⟨vs, rfl, hc.at hl ha⟩
 | false =>
  rw [hs] at h ha
  exact aO.at h hl ha
theorem jb.at {R : Nat -> D -> Value -> Prop} {all : List Value} : ∀ {n : Nat} {ss : List Sh} {y : Tup ss} {us pre post : List Value}, jb R n ss y us -> pre.length = n -> all = pre ++ nJ ss us ++ post -> jb (fun i d u => R i d u /\ all[i]? = some u) n ss y us
 | n, [], y, [], _, _, _, _, _ => trivial
 | n, [s], y, [u], pre, post, h, hl, ha => ShR.at (post := post) h hl (by rw [ha]; simp [nJ])
 | n, s :: s' :: r, y, u :: us, pre, post, h, hl, ha => by
  have hsl := h.1.cells.length
  rw [Ty.aQ] at hsl
  refine ⟨ShR.at (post := nJ (s' :: r) us ++ post) h.1 hl (by rw [ha]; simp [nJ]), jb.at (pre := pre ++ zo s u) (post := post) h.2 (by simp [hl, hsl]) (by rw [ha]; simp [nJ])⟩
theorem Q7 (tr : Bool) (ds : List D) (j : Nat) : aU (BB tr ds) j = match ds[j]? with
  | some (.list t xs) => if tr then .tree t xs else .own t xs true true
  | _ => .dead := by
 simp only [aU, BB, zE, List.getElem?_map]
 cases ds[j]? with
 | none => rfl
 | some x => cases x <;> rfl
theorem Inv.vW : ∀ (keys : List (Nat × Nat)) {G : Gh} {S : St}, Inv w0 G S a w -> nodupB keys = true ->
  ∃ G', Inv w0 G' (S.puts (keys.map fun q => .nomut q.1 q.2)) a w /\ More G G' (AK G S keys)
 | [], G, S, h, _ => ⟨G, h, ⟨rfl, rfl, rfl, rfl, rfl, fun b o => ⟨.inl, fun hh => hh.elim id fun ⟨_, _, _, _, _, _, hm, _⟩ => by cases hm⟩⟩⟩
 | (k, j) :: r, G, S, h, hn => by
  obtain ⟨hq, hn'⟩ := jr hn
  obtain ⟨G1, h1, m1⟩ := h.NZ k j
  obtain ⟨G2, h2, m2⟩ := Inv.vW r h1 hn'
  have hput : ∀ k' j', (k', j') ∈ r -> aU ((S.put (.nomut k j)).aC k') j' = aU (S.aC k') j' := fun k' j' hm => by
   show aU ((S.bM k ((S.aC k).set j (aU (S.aC k) j).yQ)).aC k') j' = _
   rw [aY]
   split
   ·rename_i hk
    rw [fJ]
    split
    ·rename_i hj
     have : (k, j) = (k', j') := by rw [hk.1, hj.1]
     exact absurd (this ▸ hm) hq
    ·rw [hk.1]
   ·rfl
  refine ⟨G2, h2, ⟨m2.ow.trans m1.ow, m2.ov.trans m1.ov, m2.bk.trans m1.bk, m2.lk.trans m1.lk, m2.lb.trans m1.lb, fun b o => ?_⟩⟩
  rw [m2.s, m1.s]
  constructor
  ·rintro ((hs | ⟨k', j', t, xs, deep, m, hm, hx⟩) | ⟨k', j', t, xs, deep, m, hm, hx, how, hov⟩)
   ·exact .inl hs
   ·simp only [List.mem_singleton] at hm
    exact .inr ⟨k', j', t, xs, deep, m, by rw [hm]; exact List.mem_cons_self, hx⟩
   ·rw [hput k' j' hm] at hx
    exact .inr ⟨k', j', t, xs, deep, m, List.mem_cons_of_mem _ hm, hx, by rw [<- m1.ow]; exact how, by rw [<- m1.ov]; exact hov⟩
  ·rintro (hs | ⟨k', j', t, xs, deep, m, hm, hx, how, hov⟩)
   ·exact .inl (.inl hs)
   ·rcases List.mem_cons.1 hm with hm | hm
    ·exact .inl (.inr ⟨k', j', t, xs, deep, m, by simp [hm], hx, how, hov⟩)
    ·exact .inr ⟨k', j', t, xs, deep, m, hm, by rw [hput k' j' hm]; exact hx, by rw [m1.ow]; exact how, by rw [m1.ov]; exact hov⟩
theorem oK {vs : List V} {k j : Nat} {x : V} (hx : x ∈ vs) (h : C.own k j ∈ x.cells) : (k, j) ∈ aI (vs.flatMap V.cells) :=
 fO (List.mem_flatMap.2 ⟨x, hx, h⟩)
theorem Inv.Wu (h : Inv w0 G S a w) (i : Nat) {cs cs' : List C} (hi : S.dP i = some cs) {w' : World} (hoff : lS (fun c => c = G.bk i) w.heap.size w w') (hkl : qC w w' (G.bk i)) {vs' : List Value} {Et : TypeId} (hh : w'.heap[G.bk i]? = some (.cells vs'.toArray Et (0, 0)))
  (hc : bY G w' cs' vs') : Inv w0 G (S.setB i (some cs')) a w' := by
 obtain ⟨ho, _⟩ := h.box i cs hi
 have hlt := h.olt _ _ ho
 have hcell : ∀ b o, G.S b o -> w'.cell? ⟨b, o, none⟩ = w.cell? ⟨b, o, none⟩ := fun b o hs =>
  World.cell?_of_block (w := w) (hoff.block b (h.sok b o hs).1 fun e => (h.sok b o hs).2 i (e ▸ ho))
 have hm : Mv G G w w' := ⟨fun b o hs => ⟨hs, hcell b o hs⟩, fun k hk => ⟨hk, fun _ => rfl⟩, fun i hi => ⟨hi, rfl⟩⟩
 have hilt : i < S.boxes.length := by
  rcases Nat.lt_or_ge i S.boxes.length with hl | hl
  ·exact hl
  ·simp [St.dP, zE, zJ hl] at hi
 have hb0 := h.below.size
 refine ⟨h.below.trans ⟨hoff.os, hoff.tape, hoff.output, hoff.size, fun k hk hnF => hoff.block k (by omega) fun e => ?_⟩, h.nodef, h.tsz, by simp [St.setB, h.bsz], by simp [St.setB, h.osz], fun x v hv => (h.tmps x v hv).move hm, ?_, ?_, ?_, ?_, h.lk, ?_, h.sfr, fun b hx => ⟨(h.fx b hx).1, fun hl => by
   by_cases eb : b = G.bk i
   ·subst eb
    exact ((h.fx _ hx).2 hl).trans hkl
   ·exact ((h.fx b hx).2 hl).same (hoff.block b (by omega) eb)⟩⟩
 ·subst e
  rcases hlt.1 with h1 | ⟨_, h1⟩
  ·omega
  ·exact hnF h1
 ·intro x y hx; exact ⟨(h.olt x y hx).1, Nat.lt_of_lt_of_le (h.olt x y hx).2 hoff.size⟩
 ·intro x o hs; exact ⟨Nat.lt_of_lt_of_le (h.sok x o hs).1 hoff.size, (h.sok x o hs).2⟩
 ·intro x cs'' hcs''
  rw [iM] at hcs''
  by_cases hxi : i = x
  ·subst hxi
   rw [if_pos ⟨rfl, hilt⟩] at hcs''
   cases hcs''
   exact ⟨ho, vs', Et, hh, hc⟩
  ·rw [if_neg (fun e => hxi e.1)] at hcs''
   obtain ⟨ho', vs'', E', hh', hc'⟩ := h.box x cs'' hcs''
   refine ⟨ho', vs'', E', (hoff.block _ (h.olt _ _ ho').2 fun e => ?_).trans hh', hc'.move hm⟩
   rw [e, ho] at ho'
   cases ho'
   exact hxi rfl
 ·intro k j
  have keep : ∀ c, eH G k j c -> eH G k j c /\ w'.heap[c]? = w.heap[c]? := fun c hc' => ⟨hc', hoff.block c (h.olt _ _ hc').2 fun e => by
   have hc'' : G.ow c = some (.own k j) := hc'
   rw [e, ho] at hc''
   cases hc''⟩
  exact (h.owns k j).same rfl hm.s (fun t xs deep m hx => ⟨keep, fun _ _ _ _ _ o hs => .inl hs⟩) fun t xs hx c hc => ⟨(keep c hc).1, (keep c hc).2, fun o hs => hs⟩
 ·intro x hx
  rw [iM]
  by_cases hxi : i = x
  ·rw [if_pos ⟨hxi, hilt⟩]; simp
  ·rw [if_neg (fun e => hxi e.1)]; exact h.lb x hx
theorem Inv.aaU (h : Inv w0 G S a w) (i : Nat) {cs cs' : List C} (hi : S.dP i = some cs) {vs : List Value} {Et : TypeId} (hh : w.heap[G.bk i]? = some (.cells vs.toArray Et (0, 0))) (hc : bY G w cs' vs) :
  Inv w0 G (S.setB i (some cs')) a w := by
 have hs := h.Wu i hi (w' := w) ⟨rfl, rfl, rfl, Nat.le_refl _, fun _ _ _ => rfl⟩ (.refl _ _) hh hc
 exact hs
theorem nG : ∀ (keys : List (Nat × Nat)) (S : St) (b : Nat), (S.puts (keys.map fun q => W.nomut q.1 q.2)).dP b = S.dP b
 | [], S, b => rfl
 | q :: r, S, b => by
  show ((S.put (.nomut q.1 q.2)).puts (r.map fun q => W.nomut q.1 q.2)).dP b = _
  rw [nG r]; rfl
theorem jM : ∀ (keys : List (Nat × Nat)) (S : St) (d : Nat), S.aC d = [] -> (S.puts (keys.map fun q => W.nomut q.1 q.2)).aC d = []
 | [], S, d, h => h
 | q :: r, S, d, h => by
  show ((S.put (.nomut q.1 q.2)).puts (r.map fun q => W.nomut q.1 q.2)).aC d = []
  refine jM r _ d ?_
  show (S.bM q.1 ((S.aC q.1).set q.2 (aU (S.aC q.1) q.2).yQ)).aC d = []
  rw [aY]
  split
  ·rename_i hk; rw [hk.1, h]; rfl
  ·exact h
theorem jb.cellsAll {R : Nat -> D -> Value -> Prop} {Q : D -> Prop} : ∀ {n : Nat} {ss : List Sh} {y : Tup ss} {us : List Value}, jb R n ss y us -> (∀ d, d ∈ dh ss y -> Q d) -> jb (fun i d u => R i d u /\ Q d) n ss y us := by
 have key : ∀ {n : Nat} {ds : List D} {vs : List Value}, aO R n ds vs -> (∀ d, d ∈ ds -> Q d) -> aO (fun i d u => R i d u /\ Q d) n ds vs := by
  intro n ds
  induction ds generalizing n with
  | nil => intro vs h1 _; cases vs with
   | nil => trivial
   | cons => exact h1.elim
  | cons d ds ih => intro vs h1 h2; cases vs with
   | nil => exact h1.elim
   | cons v vs => exact ⟨⟨h1.1, h2 d List.mem_cons_self⟩, ih h1.2 fun dd hm => h2 dd (List.mem_cons_of_mem _ hm)⟩
 have keyS : ∀ {n : Nat} {s' : Sh} {x : s'.t.den} {u : Value}, ShR R n s' x u -> (∀ d, d ∈ s'.t.cells x -> Q d) -> ShR (fun i d u => R i d u /\ Q d) n s' x u := by
  intro n s' x u hh hm
  unfold ShR at *
  split at hh
  ·obtain ⟨vs, e, hc⟩ := hh; exact ⟨vs, e, key hc hm⟩
  ·exact key hh hm
 intro n ss
 induction ss generalizing n with
 | nil => intro y us hh _; cases us with
  | nil => trivial
  | cons => exact hh.elim
 | cons s0 r ih =>
  intro y us hh hm
  cases r with
  | nil => cases us with
   | nil => exact hh.elim
   | cons u us => cases us with
    | nil => exact keyS hh hm
    | cons => exact hh.elim
  | cons s1 r => cases us with
   | nil => exact hh.elim
   | cons u us => exact ⟨keyS hh.1 fun dd hd => hm dd (List.mem_append_left _ hd), ih hh.2 fun dd hd => hm dd (List.mem_append_right _ hd)⟩
theorem Ze (ds : List D) (j : Nat) : aU (XC ds) j = match ds[j]? with
  | some (.list t xs) => .own t xs false true
  | _ => .dead := by
 simp only [aU, XC, zE, List.getElem?_map]
 cases ds[j]? with
 | none => rfl
 | some x => cases x <;> rfl
theorem OwT.rest {w : World} {S S' : Nat -> Nat -> Prop} {deep m : Bool} {t : Ty} {xs : List t.den} {v : Value} {fp fp' : Nat -> Prop} (h : OwT w S deep m t xs v fp) (hS : ∀ b o, S b o -> S' b o)
  (hr : ∀ b, fp b -> ∀ o, S' b o -> S b o) (hf : ∀ b, fp b -> fp' b) : OwT w S' deep m t xs v fp' := by
 rcases h with h | ⟨b, cap, arr, E, vs, fps, rfl, hb, hcap, hmax, hsz, hfb, hc, hrr, hff, hdis, hst⟩
 ·exact .inl h
 ·exact .inr ⟨b, cap, arr, E, vs, fps, rfl, hb, hcap, hmax, hsz, hf _ hfb, hc, fun i x j d hx hd => (hrr i x j d hx hd).move (fun b o hs => ⟨hS b o hs, rfl⟩) fun _ _ => rfl, fun i j c hcf => ⟨hf _ (hff i j c hcf).1, (hff i j c hcf).2⟩, hdis, fun o hs => hst o (hr b hfb o hs)⟩
theorem Inv.acf (h : Inv w0 G S a w) {B : Nat} (hB : ∀ c x, G.ow c = some x -> c < B) (h0 : w0.w.heap.size <= B) {S' : Nat -> Nat -> Prop} {sh : Bool} {rs : List Sh} {y : Tup rs} {us : List Value} (hres : NI B w S' sh rs y us)
  (hS : ∀ b o, S' b o -> G.S b o) (hSB : ∀ b o, B <= b -> G.S b o -> S' b o) {o : Oper} {S0 : St} (hO : ∀ d, S0.aC d = [] -> S.aC d = []) {ws : List W} (hv : (VQ o sh rs y).val S0 = some ws) :
  ∃ G', Inv w0 G' (S.puts ws) (a.put o.dst (pack us)) w := by
 unfold VQ at hv
 cases hdst : o.dst with
 | none =>
  rw [hdst] at hv
  simp only [Rd.val, zD] at hv
  subst hv
  exact ⟨G, h⟩
 | some d =>
  rw [hdst] at hv
  simp only at hv
  split at hv
  case isFalse hcond =>
   simp only [Rd.val, zD] at hv
   subst hv
   refine ⟨G, h.fU d (av := vg (ru d false 0 rs y)) ?_⟩
   cases sh with
   | false =>
    refine oI (lI (R := fun _ dd u => Rep w S' dd u) (fun i dd u hr => ?_) hres)
    have hr' : Rep w G.S dd u := hr.move fun b o hs => ⟨hS b o hs, rfl⟩
    cases dd with
    | list t xs => exact hr'
    | int => exact hr'
    | bool => exact hr'
    | str => exact hr'
   | true =>
    obtain ⟨fps, hT, _⟩ := hres
    refine oI (lI (R := fun i dd u => FQ w S' dd u (fps i) /\ ji dd = none) (fun i dd u hr => ?_) (hT.cellsAll fun dd hm => ?_))
    ·obtain ⟨hr, hd⟩ := hr
     cases dd with
     | list t xs => cases hd
     | int k n => exact Rep.move (S := S') hr fun b o hs => ⟨hS b o hs, rfl⟩
     | bool b => exact Rep.move (S := S') hr fun b o hs => ⟨hS b o hs, rfl⟩
     | str v => exact Rep.move (S := S') hr fun b o hs => ⟨hS b o hs, rfl⟩
    ·cases dd with
     | list t xs => exact absurd (by rw [Bool.true_and]; exact List.any_eq_true.2 ⟨_, hm, rfl⟩) hcond
     | _ => rfl
  case isTrue hcond =>
   rw [zI] at hcond
   obtain ⟨rfl, hany⟩ := hcond
   obtain ⟨fps, hT, hfp, hfd⟩ := hres
   simp only [Rd.ak, zB, Rd.val, zD] at hv
   obtain ⟨ws', h6, rfl⟩ := hv
   obtain ⟨hdO, rfl⟩ := eG h6
   by_cases hdl : d < S.tmps.length
   case neg =>
    refine ⟨G, ?_⟩
    show Inv w0 G ((S.bM d _).fU d _) _ _
    rw [Bv h.tsz hdl, vZ (by rw [h.osz]; exact hdl), vY hdl]
    exact h
   generalize hvals0 : nJ rs us = vals at *
   have hvals : aO (fun i d u => FQ w S' d u (fps i)) 0 (dh rs y) vals := hvals0 ▸ hT.cells
   obtain ⟨hvl, hvg⟩ := hvals.get
   classical
   have hne : XC (dh rs y) ≠ [] := by
    intro e
    have : dh rs y = [] := by
     simp only [XC, List.map_eq_nil_iff] at e; exact e
    rw [this] at hany; cases hany
   obtain ⟨G2, h7, m7, l7, o7⟩ := h.O4 d (XC (dh rs y)) (fun i => vals.getD i undef) (fun c => if hh : ∃ i, fps i c then some hh.choose else none) (hO d hdO) hdl hne
    (fun c i hc => by
     split at hc
     ·rename_i hh
      obtain ⟨f1, f2⟩ := hfp _ _ hh.choose_spec
      refine ⟨Nat.le_trans h0 f1, f2, fun i hb => ?_, fun k' j' _ _ _ _ hb => ?_⟩
      ·exact absurd (hB _ _ hb) (by omega)
      ·exact absurd (hB _ _ hb) (by omega)
     ·cases hc)
    (fun j => by
     rw [Ze]
     cases hj : (dh rs y)[j]? with
     | none => trivial
     | some dd =>
      cases dd with
      | int => trivial
      | bool => trivial
      | str => trivial
      | list t xs =>
       have hjl : j < vals.length := by rw [<- hvl]; exact (zC.1 hj).1
       have := hvg j _ vals[j] hj (by simp [hjl])
       rw [Nat.zero_add] at this
       have e : vals.getD j undef = vals[j] := by simp [hjl]
       have q1 : ∀ c, fps j c -> (if hh : ∃ i, fps i c then some hh.choose else none) = some j := fun c hc => by
        have hh : ∃ i, fps i c := ⟨j, hc⟩
        rw [dif_pos hh]
        exact congrArg some (hfd _ _ _ hh.choose_spec hc)
       show OwT w G.S false true t xs (vals.getD j undef) _
       rw [e]
       exact OwT.rest (S := S') this hS (fun b hb o hs => hSB b o (hfp _ _ hb).1 hs) q1)
   have hTa := hT.at (all := vals) (pre := []) (post := []) rfl (by rw [<- hvals0]; simp)
   have hTa' : jb (fun i d u => (FQ w S' d u (fps i) /\ vals[i]? = some u)) 0 rs y us := hTa
   refine ⟨G2, h7.fU d (av := vg (ru d true 0 rs y)) (oI (lI (R := fun i d u => (FQ w S' d u (fps i) /\ vals[i]? = some u)) ?_ hTa'))⟩
   rintro i dd u ⟨hw, hu⟩
   cases dd with
   | list t xs =>
    refine ⟨l7, ?_, (OwT.ow hw).one⟩
    rw [o7]
    simp [hu]
   | int k n => exact Rep.move (S := S') hw fun b o hs => ⟨(m7.s b o (hS b o hs)).1, rfl⟩
   | bool b => exact Rep.move (S := S') hw fun b o hs => ⟨(m7.s b o (hS b o hs)).1, rfl⟩
   | str v => exact Rep.move (S := S') hw fun b o hs => ⟨(m7.s b o (hS b o hs)).1, rfl⟩
theorem Inv.acg (h : Inv w0 G S a w) {B : Nat} (hB : ∀ c x, G.ow c = some x -> c < B) (h0 : w0.w.heap.size <= B) (hSB : ∀ b o, G.S b o -> b < B) {tr : Bool} {rs : List Sh} {y : Tup rs} {us : List Value} (hres : adz B w rs y us)
  {o : Oper} {S0 : St} (hO : ∀ d, S0.aC d = [] -> S.aC d = []) {ws : List W} (hv : (aag o tr rs y).val S0 = some ws) :
  ∃ G', Inv w0 G' (S.puts ws) (a.put o.dst (pack us)) w := by
 obtain ⟨fps, hT, hfp, hfd⟩ := hres
 have scalar : ∀ {G' : Gh} {d : Nat} {ex : Bool} {i : Nat} {dd : D} {u : Value}, ji dd = none -> (∃ S' fp, Ow w S' true dd u fp) -> kY G' w (Xv d ex i dd) u := by
  rintro G' d ex i dd u hd ⟨S', fp, hw⟩
  cases hw with
  | int k n => exact Rep.int _ _
  | bool b => exact Rep.bool _
  | str v => exact Rep.str _
  | nil => cases hd
  | ro _ _ _ hdd => cases hdd
  | list => cases hd
 unfold aag at hv
 cases hdst : o.dst with
 | none =>
  rw [hdst] at hv
  simp only [Rd.val, zD] at hv
  subst hv
  exact ⟨G, h⟩
 | some d =>
  rw [hdst] at hv
  simp only at hv
  by_cases hany : (dh rs y).any isList = true
  ·rw [if_pos hany] at hv
   simp only [Rd.ak, zB, Rd.val, zD] at hv
   obtain ⟨ws', h6, rfl⟩ := hv
   obtain ⟨hdO, rfl⟩ := eG h6
   by_cases hdl : d < S.tmps.length
   case neg =>
    refine ⟨G, ?_⟩
    show Inv w0 G ((S.bM d _).fU d _) _ _
    rw [Bv h.tsz hdl, vZ (by rw [h.osz]; exact hdl), vY hdl]
    exact h
   generalize hvals0 : nJ rs us = vals at *
   have hvals : aO (fun i d u => Ow w (fun _ _ => False) true d u (fps i)) 0 (dh rs y) vals := hvals0 ▸ hT.cells
   obtain ⟨hvl, hvg⟩ := hvals.get
   classical
   have hne : BB tr (dh rs y) ≠ [] := by
    intro e
    have : dh rs y = [] := by
     simp only [BB, List.map_eq_nil_iff] at e; exact e
    rw [this] at hany; cases hany
   obtain ⟨G2, h7, m7, l7, o7⟩ := h.O4 d (BB tr (dh rs y)) (fun i => vals.getD i undef) (fun c => if hh : ∃ i, fps i c then some hh.choose else none) (hO d hdO) hdl hne
    (fun c i hc => by
     split at hc
     ·rename_i hh
      obtain ⟨f1, f2⟩ := hfp _ _ hh.choose_spec
      refine ⟨Nat.le_trans h0 f1, f2, fun i hb => ?_, fun k' j' _ _ _ _ hb => ?_⟩
      ·exact absurd (hB _ _ hb) (by omega)
      ·exact absurd (hB _ _ hb) (by omega)
     ·cases hc)
    (fun j => by
     rw [Q7]
     cases hj : (dh rs y)[j]? with
     | none => trivial
     | some dd =>
      cases dd with
      | int => trivial
      | bool => trivial
      | str => trivial
      | list t xs =>
       have hjl : j < vals.length := by rw [<- hvl]; exact (zC.1 hj).1
       have := hvg j _ vals[j] hj (by simp [hjl])
       rw [Nat.zero_add] at this
       have e : vals.getD j undef = vals[j] := by simp [hjl]
       have q1 : ∀ c, fps j c -> (if hh : ∃ i, fps i c then some hh.choose else none) = some j := fun c hc => by
        have hh : ∃ i, fps i c := ⟨j, hc⟩
        rw [dif_pos hh]
        exact congrArg some (hfd _ _ _ hh.choose_spec hc)
       have q2 : ∀ b oo, G.S b oo -> ¬ fps j b := fun b oo hs hb => by
        have := hSB b oo hs
        have := (hfp _ _ hb).1
        omega
       cases htr : tr with
       | false =>
        show OwT w G.S true true t xs (vals.getD j undef) _
        rw [e]
        exact Zd this q1 q2
       | true =>
        refine ⟨fps j, q1, ?_, q2⟩
        rw [e]
        exact this)
   have hTa := hT.at (all := vals) (pre := []) (post := []) rfl (by rw [<- hvals0]; simp)
   have hTa' : jb (fun i d u => (Ow w (fun _ _ => False) true d u (fps i) /\ vals[i]? = some u)) 0 rs y us := hTa
   refine ⟨G2, h7.fU d (av := vg (ru d true 0 rs y)) (oI (lI (R := fun i d u => (Ow w (fun _ _ => False) true d u (fps i) /\ vals[i]? = some u)) ?_ hTa'))⟩
   rintro i dd u ⟨hw, hu⟩
   cases hdl2 : ji dd with
   | none => exact scalar hdl2 ⟨_, _, hw⟩
   | some t =>
    cases dd with
    | int => cases hdl2
    | bool => cases hdl2
    | str => cases hdl2
    | list t' xs =>
     refine ⟨l7, ?_, hw.one⟩
     rw [o7]
     simp [hu]
  ·rw [if_neg hany] at hv
   simp only [Rd.val, zD] at hv
   subst hv
   refine ⟨G, h.fU d (av := vg (ru d true 0 rs y)) (oI (lI (R := fun i dd u => Ow w (fun _ _ => False) true dd u (fps i) /\ ji dd = none) (fun i dd u hw => scalar hw.2 ⟨_, _, hw.1⟩) (hT.cellsAll fun dd hm => ?_)))⟩
   cases dd with
   | list t xs => exact absurd (List.any_eq_true.2 ⟨_, hm, rfl⟩) hany
   | _ => rfl
theorem Zk (h : Inv w0 G S a w) {c : Call} {f : FuncId} (ho : o.op = .call c) (hc : c.callee = .value (.func f)) {E : Env} (hE : vO P E w0) {ws : List W} (hv : (adX E o c f).val S = some ws)
  (hK : ∀ a' w' G', Inv w0 G' (S.puts ws) a' w' -> K a' w') : o.wp P a w K Q := by
 unfold adX at hv
 split at hv
 case h_2 => cases hv
 rename_i s x hs hx
 have hfid : s.fid = f := by have := List.find?_some hs; simpa using this
 obtain ⟨hcall, hsound⟩ := hE.2.2.2.2.2.2.2.1 s (List.mem_of_find?_eq_some hs)
 simp only [Rd.ak, zB] at hv
 obtain ⟨ax, h1, v, h2, hv⟩ := hv
 split at hv
 case h_2 => cases hv
 rename_i k j
 simp only [Rd.val] at hv
 split at hv
 case h_2 => cases hv
 rename_i t xs deep hown
 split at hv
 case isFalse => cases hv
 rename_i htt
 subst htt
 simp only [Rd.val, zB, zD] at hv
 obtain ⟨ys, h7, rfl⟩ := hv
 have hxr : pR G w (.one (.own k j)) (a.eval x) := lZ h2 (aS h h1)
 have hxv : a.eval x = G.ov k j := hxr.2.1
 have how : OwT w G.S deep true s.t xs (a.eval x) (eH G k j) := by
  have := h.owns k j
  rw [hown] at this
  rw [hxv]; exact this
 have hargs : c.args.map a.eval = #[a.eval x] := by
  have : c.args = #[x] := lm hx
  rw [this]; simp
 unfold Oper.wp
 rw [jq ho hc (hfid ▸ hcall), <- hfid, hargs]
 refine Calls.mono (hsound w G.S deep (a.eval x) xs ys (eH G k j) h7 (hE.am.keep w h.below) how (fun c hc => (h.olt _ _ hc).2) (fun b o hs => (h.sok b o hs).1)) fun e w' he => ?_
 obtain ⟨rfl, hoff, hT'⟩ := he
 rw [hxv] at hT'
 have h9 := Q5 h hown hoff hT'
 refine hK _ _ G ?_
 exact h9.dst (o := o) (av := .tup []) (v := .tuple #[]) ⟨[], rfl, trivial⟩
theorem Zj (h : Inv w0 G S a w) {c : Call} {f : FuncId} (ho : o.op = .call c) (hc : c.callee = .value (.func f)) {E : Env} (hE : vO P E w0) {ws : List W} (hv : (adW E o c f).val S = some ws)
  (hK : ∀ a' w' G', Inv w0 G' (S.puts ws) a' w' -> K a' w') : o.wp P a w K Q := by
 unfold adW at hv
 split at hv
 case h_2 => exact Zk h ho hc hE hv hK
 rename_i s hs
 have hfid : s.fid = f := by have := List.find?_some hs; simpa using this
 obtain ⟨hcall, hsound⟩ := hE.2.2.2.2.2.1 s (List.mem_of_find?_eq_some hs)
 simp only [Rd.ak, zB] at hv
 obtain ⟨vs, h2, z, h3, hv⟩ := hv
 simp only [Rd.val, zB] at hv
 obtain ⟨y, h4, hv⟩ := hv
 split at hv
 case isFalse => cases hv
 rename_i hnk
 simp only [Rd.ak, zB, Rd.val, zD] at hv
 obtain ⟨ws', h9, rfl⟩ := hv
 have hvs := pK h h2
 generalize hkeys : aI (vs.flatMap V.cells) = keys at *
 have hargs : (c.args.map a.eval) = (c.args.toList.map a.eval).toArray := by cases c.args; simp
 have hT := sZ h keys 0 h3 hvs fun k j z' hz hm => by rw [<- hkeys]; exact oK hz hm
 obtain ⟨G1, h5, m5⟩ := Inv.vW keys h hnk
 unfold Oper.wp
 rw [jq ho hc (hfid ▸ hcall), <- hfid, hargs]
 refine Calls.mono (hsound w G1.S (c.args.toList.map a.eval) z y h4 (hE.am.keep w h.below) (hT.imp fun i d v hr => hr.move fun bb oo hs => ⟨(m5.s bb oo).2 hs, rfl⟩) fun bb oo hs => (h5.sok bb oo hs).1) fun e w' he => ?_
 obtain ⟨v, rfl, hbel, S2, us, rfl, hres, hS2⟩ := he
 have h6 := h5.grow hbel
 have hno : ∀ bb, w.heap.size <= bb -> ∀ x, G1.ow bb ≠ some x := fun bb hb x hx => by
  have := (h5.olt _ _ hx).2
  omega
 obtain ⟨h7, m7⟩ := h6.Vp (fun bb oo => w.heap.size <= bb /\ S2 bb oo) (fun bb oo hh => ⟨(hS2 bb oo hh.2).2, fun i => hno bb hh.1 _, fun k j t xs deep m _ len cap _ how => absurd how (hno bb hh.1 _)⟩)
  (fun bb oo hh => Nat.le_trans h.below.size hh.1) (fun bb oo hh k j t xs _ => hno bb hh.1 _)
 obtain ⟨G8, h8⟩ := h7.acf (B := w.heap.size) (fun c x hx => (h5.olt _ _ hx).2) h.below.size hres (fun b o hs => (hS2 b o hs).1.imp id fun hb => ⟨hb, hs⟩) (fun b o hb hs => hs.elim (fun hs => absurd (h5.sok b o hs).1 (by omega)) fun hs => hs.2)
  (S0 := S) (fun d hd => jM keys S d hd) h9
 simp only [dM] at hK
 exact hK _ _ _ h8
theorem Zl (h : Inv w0 G S a w) {c : Call} {f : FuncId} (ho : o.op = .call c) (hc : c.callee = .value (.func f)) {E : Env} (hE : vO P E w0) {ws : List W} (hv : (adY E o c f).val S = some ws)
  (hK : ∀ a' w' G', Inv w0 G' (S.puts ws) a' w' -> K a' w') : o.wp P a w K Q := by
 unfold adY at hv
 split at hv
 ·rename_i s x xs hs hxs
  have hfid : s.fid = f := by have := List.find?_some hs; simpa using this
  obtain ⟨hcall, hsound⟩ := hE.2.2.2.1 s (List.mem_of_find?_eq_some hs)
  simp only [Rd.ak, zB] at hv
  obtain ⟨ap, h1, hv⟩ := hv
  have hpr := aS h h1
  split at hv
  case h_2 => cases hv
  rename_i b
  simp only [Rd.val] at hv
  split at hv
  case h_2 => cases hv
  rename_i cs hcs
  simp only [Rd.ak, zB] at hv
  obtain ⟨vs, h2, z, h3, hv⟩ := hv
  simp only [Rd.val, zB] at hv
  obtain ⟨y, h4, hv⟩ := hv
  obtain ⟨hob, vs0, E0, hh0, hcs0⟩ := h.box b cs hcs
  have hptr : a.eval x = .pointer (some ⟨G.bk b, 0, none⟩) := hpr.2
  have hvs := pK h h2
  have hvs' : kL G w (.agg cs :: vs) (.agg vs0.toArray :: xs.map a.eval) := ⟨⟨vs0, rfl, hcs0⟩, hvs⟩
  have hargs : (c.args.map a.eval) = (Value.pointer (some ⟨G.bk b, 0, none⟩) :: xs.map a.eval).toArray := by
   have : c.args.map a.eval = (c.args.toList.map a.eval).toArray := by cases c.args; simp
   rw [this, hxs]; simp [hptr]
  generalize hkeys : aI ((V.agg cs :: vs).flatMap V.cells) = keys at *
  have main : ∀ (rs : List Sh) (y : Tup rs), (aau o s.ex E.trees s.sh b cs.length keys rs y).val S = some ws ->
    (∀ (S1 : Nat -> Nat -> Prop), (∀ bb oo, (G.S bb oo \/ AK G S keys bb oo) -> S1 bb oo) -> (∀ bb oo, S1 bb oo -> bb < w.heap.size /\ bb ≠ G.bk b) ->
     Calls P f (c.args.map a.eval) w fun e w' => ∃ v, e = .returned v /\ lS (fun c => c = G.bk b) w.heap.size w w' /\ qC w w' (G.bk b) /\ ab7 w.heap.size w' S1 (G.bk b) s.ex s.sh rs y v) -> o.wp P a w K Q := by
   intro rs y hv hcalls
   cases rs with
   | nil => cases hv
   | cons c0 rs =>
   rw [aau] at hv
   split at hv
   case isFalse => cases hv
   split at hv
   case isFalse => cases hv
   split at hv
   case isFalse => cases hv
   rename_i hca hct hnk
   simp only [Rd.ak, zB, Rd.val, zD] at hv
   obtain ⟨ws', h9, rfl⟩ := hv
   obtain ⟨G1, h5, m5⟩ := Inv.vW keys h hnk
   have hS1 : ∀ bb oo, G1.S bb oo -> bb < w.heap.size /\ bb ≠ G.bk b := fun bb oo hs => ⟨(h5.sok bb oo hs).1, fun e => (h5.sok bb oo hs).2 b (by rw [m5.ow, e]; exact hob)⟩
   unfold Oper.wp
   rw [jq ho hc (hfid ▸ hcall)]
   refine Calls.mono (hcalls G1.S (fun bb oo hh => (m5.s bb oo).2 hh) hS1) fun e w' he => ?_
   obtain ⟨v, rfl, hoff, hkl, S2, vs', Et', us, rfl, hh', hcont, hT, hS2⟩ := he
   have hbk : G1.bk b = G.bk b := by rw [m5.bk]
   have hgb : (S.puts (keys.map fun q => W.nomut q.1 q.2)).dP b = some cs := by rw [nG]; exact hcs
   obtain ⟨hcl, hcg⟩ := hcont.get
   -- the box, its cells not looked at
   have h6 : Inv w0 G1 ((S.puts (keys.map fun q => W.nomut q.1 q.2)).setB b (some (List.replicate vs'.length .undef))) a w' := by
    refine h5.Wu b hgb (by rw [hbk]; exact hoff) (by rw [hbk]; exact hkl) (by rw [hbk]; exact hh') (bY.mk (by simp) fun i c1 v1 hc1 hv1 => ?_)
    have : c1 = .undef := by
     have := zG hc1
     exact (List.mem_replicate.1 this).2
    subst this
    have hl : i < (c0.t.cells (vU y)).length := by
     have := (zC.1 hv1).1; omega
    exact (hcg i _ v1 (zF hl) hv1).one
   -- what the call laid is stable
   have hw' := hoff.size
   have hno : ∀ bb, w.heap.size <= bb -> ∀ x, G1.ow bb ≠ some x := fun bb hb x hx => by
    have := (h5.olt _ _ hx).2
    omega
   obtain ⟨h7, m7⟩ := h6.Vp (fun bb oo => w.heap.size <= bb /\ S2 bb oo) (fun bb oo hh => ⟨(hS2 bb oo hh.2).2, fun i => hno bb hh.1 _, fun k j t xs deep m _ len cap _ how => absurd how (hno bb hh.1 _)⟩)
    (fun bb oo hh => Nat.le_trans h.below.size hh.1) (fun bb oo hh k j t xs _ => hno bb hh.1 _)
   have hmv : ∀ {dd : D} {u : Value}, Rep w' S2 dd u -> Rep w' (fun bb oo => G1.S bb oo \/ (w.heap.size <= bb /\ S2 bb oo)) dd u := fun hr => hr.move fun bb oo hs => ⟨(hS2 bb oo hs).1.imp id fun hb => ⟨hb.2, hs⟩, rfl⟩
   have hblt : b < (S.puts (keys.map fun q => W.nomut q.1 q.2)).boxes.length := by
    rcases Nat.lt_or_ge b (S.puts (keys.map fun q => W.nomut q.1 q.2)).boxes.length with hl | hl
    ·exact hl
    ·have := hgb
     simp [St.dP, zE, zJ hl] at this
   have h8 := h7.aaU b (cs' := (c0.t.cells (vU y)).map .d) (vs := vs') (Et := Et') (by
     rw [iM, if_pos ⟨rfl, hblt⟩]) (by show w'.heap[G1.bk b]? = _; rw [hbk]; exact hh')
    (bY.mk (by simp [hcl]) fun i c1 v1 hc1 hv1 => by
     rw [List.getElem?_map, Option.map_eq_some_iff] at hc1
     obtain ⟨d1, hd1, rfl⟩ := hc1
     exact hmv (hcg i d1 v1 hd1 hv1))
   have eS : ((S.puts (keys.map fun q => W.nomut q.1 q.2)).setB b (some (List.replicate vs'.length C.undef))).setB b (some ((c0.t.cells (vU y)).map .d)) = (S.puts (keys.map fun q => W.nomut q.1 q.2)).setB b (some ((c0.t.cells (vU y)).map .d)) := by
    simp [St.setB]
   rw [eS] at h8
   have hO : ∀ d, S.aC d = [] -> ((S.puts (keys.map fun q => W.nomut q.1 q.2)).setB b (some ((c0.t.cells (vU y)).map .d))).aC d = [] := fun d hd => by rw [X6]; exact jM keys S d hd
   simp only [dM] at hK
   cases hex : s.ex with
   | false =>
    rw [hex] at hT h9
    obtain ⟨G8, h10⟩ := h8.acf (B := w.heap.size) (fun c x hx => (h5.olt _ _ hx).2) h.below.size hT (fun b o hs => (hS2 b o hs).1.imp id fun hb => ⟨hb.2, hs⟩) (fun b o hb hs => hs.elim (fun hs => absurd (h5.sok b o hs).1 (by omega)) fun hs => hs.2)
     (S0 := S) hO h9
    exact hK _ _ _ h10
   | true =>
    rw [hex] at hT h9
    obtain ⟨G8, h10⟩ := h8.acg (B := w.heap.size) (fun c x hx => (h5.olt _ _ hx).2) h.below.size (fun b o hs => hs.elim (fun hs => (h5.sok b o hs).1) fun hs => ((hS2 b o hs.2).1.elim (fun q => (hS1 b o q).1) fun q => by rw [hex] at q; cases q.1)) hT (S0 := S) hO h9
    exact hK _ _ _ h10
  refine main s.rs y hv fun S1 hS1 hlt => ?_
  have hT := sZ h keys 0 h3 hvs' fun k j z' hz hm => by
   rw [<- hkeys]; exact oK hz hm
  rw [<- hfid, hargs]
  exact hsound w S1 (G.bk b) vs0 E0 (xs.map a.eval) z y h4 (hE.am.keep w h.below) (by rcases (h.olt _ _ hob).1 with hh | hh; exact Nat.le_trans hE.am.base hh; exact hE.am.rows _ hh.2) hh0 (hT.imp fun i d v hr => hr.move fun bb oo hs => ⟨hS1 bb oo hs, rfl⟩) hlt
 ·split at hv
  case h_2 => exact Zj h ho hc hE hv hK
  rename_i s d hs hd
  have hfid : s.fid = f := by have := List.find?_some hs; simpa using this
  obtain ⟨hcall, hsound⟩ := hE.2.2.2.2.1 s (List.mem_of_find?_eq_some hs)
  simp only [Rd.ak, zB] at hv
  obtain ⟨vs, h2, z, h3, hv⟩ := hv
  simp only [Rd.val, zB] at hv
  obtain ⟨y, h4, hv⟩ := hv
  split at hv
  case isFalse => cases hv
  rename_i hnk
  simp only [Rd.ak, zB, Rd.val, zD] at hv
  obtain ⟨ws', h9, rfl⟩ := hv
  unfold uq at h9
  split at h9
  case isTrue => cases h9
  rename_i hd0
  simp only [Rd.val] at h9
  split at h9
  case h_2 => cases h9
  rename_i hgB
  simp only [Rd.val, zD] at h9
  subst h9
  have hvs := pK h h2
  generalize hkeys : aI (vs.flatMap V.cells) = keys at *
  have hargs : (c.args.map a.eval) = (c.args.toList.map a.eval).toArray := by cases c.args; simp
  have hT := sZ h keys 0 h3 hvs fun k j z' hz hm => by rw [<- hkeys]; exact oK hz hm
  obtain ⟨G1, h5, m5⟩ := Inv.vW keys h hnk
  unfold Oper.wp
  rw [jq ho hc (hfid ▸ hcall), <- hfid, hargs]
  refine Calls.mono (hsound w G1.S (c.args.toList.map a.eval) z y h4 (hE.am.keep w h.below) (hT.imp fun i d v hr => hr.move fun bb oo hs => ⟨(m5.s bb oo).2 hs, rfl⟩) fun bb oo hs => (h5.sok bb oo hs).1) fun e w' he => ?_
  obtain ⟨bb, rfl, hbel, hbb, vs', Et', S2, hh', hcont, hS2⟩ := he
  have h6 := h5.grow hbel
  have hno : ∀ bb, w.heap.size <= bb -> ∀ x, G1.ow bb ≠ some x := fun bb hb x hx => by
   have := (h5.olt _ _ hx).2
   omega
  obtain ⟨h7, m7⟩ := h6.Vp (fun bb oo => w.heap.size <= bb /\ S2 bb oo) (fun bb oo hh => ⟨(hS2 bb oo hh.2).2.1, fun i => hno bb hh.1 _, fun k j t xs deep m _ len cap _ how => absurd how (hno bb hh.1 _)⟩)
   (fun bb oo hh => Nat.le_trans h.below.size hh.1) (fun bb oo hh k j t xs _ => hno bb hh.1 _)
  obtain ⟨hcl, hcg⟩ := hcont.get
  obtain ⟨G8, h8⟩ := h7.uq d bb hd0 (by rw [nG]; exact hgB) (Nat.le_trans h.below.size hbb)
   (by
    show G1.ow bb = none
    cases hx : G1.ow bb with
     | none => rfl
     | some x => exact absurd hx (hno bb hbb x))
   (fun oo hs => by
    rcases hs with hs | ⟨_, hs⟩
    ·have := (h5.sok bb oo hs).1; omega
    ·exact (hS2 bb oo hs).2.2 rfl) hh' (cs := (dh s.rs y).map .d) (bY.mk (by simp [hcl]) fun i c1 v1 hc1 hv1 => by
     rw [List.getElem?_map, Option.map_eq_some_iff] at hc1
     obtain ⟨d1, hd1, rfl⟩ := hc1
     exact (hcg i d1 v1 hd1 hv1).move fun bb oo hs => ⟨(hS2 bb oo hs).1.imp id fun hb => ⟨hb, hs⟩, rfl⟩)
  rw [hd]
  simp only [dM] at hK
  exact hK _ _ _ h8
theorem abn (h : Inv w0 G S a w) {c : Call} {f : FuncId} (ho : o.op = .call c) (hc : c.callee = .value (.func f)) {E : Env} (hE : vO P E w0) {ws : List W} (hv : (eff E o).val S = some ws)
  (hK : ∀ a' w' G', Inv w0 G' (S.puts ws) a' w' -> K a' w') : o.wp P a w K Q := by
 unfold eff at hv
 rw [ho] at hv
 simp only [hc] at hv
 split at hv
 ·split at hv
  ·rename_i m x y hm hxy
   obtain ⟨h1, h2⟩ := hE.2.2.1 m (List.mem_of_find?_eq_some hm)
   have hfid : m.fid = f := by have := List.find?_some hm; simpa using this
   exact abk h ho hc hfid (hfid ▸ h1) hE.am h2 hxy hv hK
  ·exact Zl h ho hc hE hv hK
 rename_i s hs
 have hfid : s.fid = f := by have := List.find?_some hs; simpa using this
 obtain ⟨hcall, hsound⟩ := hE.2.1 s (List.mem_of_find?_eq_some hs)
 simp only [Rd.ak, zB] at hv
 obtain ⟨vs, h1, x, h2, hv⟩ := hv
 simp only [Rd.val, zB] at hv
 obtain ⟨y, h3, hv⟩ := hv
 split at hv
 case isFalse => cases hv
 rename_i hex
 have hvs := pK h h1
 have hargs : (c.args.map a.eval) = (c.args.toList.map a.eval).toArray := by
  cases c.args; simp
 have upon : ∀ {R : Value -> World -> Prop}, Calls P f (c.args.map a.eval) w (fun e w' => ∃ v, e = .returned v /\ R v w') -> (∀ v w', R v w' -> K (a.put o.dst v) w') -> o.wp P a w K Q := by
  intro R hC hR
  unfold Oper.wp
  rw [jq ho hc (hfid ▸ hcall)]
  refine Calls.mono hC fun e w' he => ?_
  obtain ⟨v, rfl, hr⟩ := he
  exact hR v w' hr
 have hcalls : ∀ (S' : Nat -> Nat -> Prop), (∀ b oo, (G.S b oo \/ AK G S (aI (vs.flatMap V.cells)) b oo) -> S' b oo) -> (∀ b oo, S' b oo -> b < w.heap.size) ->
   Calls P f (c.args.map a.eval) w (fun e w' => ∃ v, e = .returned v /\ (Below w.heap.size w w' /\ vF w.heap.size w' S' s.ex s.rs y v)) := by
  intro S' hS' hlt
  have := sZ h (aI (vs.flatMap V.cells)) 0 h2 hvs fun k j z hz hm => oK hz hm
  rw [<- hfid, hargs]
  exact hsound w S' _ x y h3 (hE.am.keep w h.below) (this.imp fun i d v hr => hr.move fun b oo hs => ⟨hS' b oo hs, rfl⟩) hlt
 have hAlt : ∀ b oo, AK G S (aI (vs.flatMap V.cells)) b oo -> b < w.heap.size := by
  rintro b oo ⟨k, j, t, xs, deep, m, _, _, how, _⟩
  exact (h.olt _ _ how).2
 cases hexs : s.ex with
 | true =>
  refine upon (hcalls (fun b oo => G.S b oo \/ AK G S (aI (vs.flatMap V.cells)) b oo) (fun _ _ hh => hh) (fun b oo hh => hh.elim (fun hs => (h.sok b oo hs).1) (hAlt b oo))) ?_
  rintro v w' ⟨hbel, us, rfl, hres⟩
  rw [hexs] at hres
  have hv' : (aag o E.trees s.rs y).val S = some ws := by
   rw [<- hv]
   unfold aag
   simp only [hexs, Bool.true_and]
   cases o.dst with
   | none => rfl
   | some d => by_cases hany : (dh s.rs y).any isList = true <;> simp [hany]
  obtain ⟨G8, h10⟩ := (h.grow hbel).acg (B := w.heap.size) (fun c x hx => (h.olt _ _ hx).2) h.below.size (fun b o hs => (h.sok b o hs).1) hres (S0 := S) (fun _ hd => hd) hv'
  exact hK _ _ _ h10
 | false =>
  have hnk : nodupB (aI (vs.flatMap V.cells)) = true := by simpa [hexs] using hex
  obtain ⟨G1, h5, m5⟩ := Inv.vW (aI (vs.flatMap V.cells)) h hnk
  refine upon (hcalls G1.S (fun b oo hh => (m5.s b oo).2 hh) (fun b oo hh => (h5.sok b oo hh).1)) ?_
  rintro v w' ⟨hbel, us, rfl, hres⟩
  rw [hexs] at hres
  obtain ⟨S', hT, hS'⟩ := hres
  have h6 := h5.grow hbel
  obtain ⟨h7, m7⟩ := h6.Vp (fun b oo => S' b oo /\ w.heap.size <= b) (fun b oo hh => by
   have hno : ∀ x, G1.ow b ≠ some x := fun x hx => by
    have := (h5.olt _ _ hx).2
    omega
   exact ⟨(hS' b oo hh.1).2, fun i => hno _, fun k j t xs deep m _ len cap _ how => absurd how (hno _)⟩) (fun b oo hh => Nat.le_trans h.below.size hh.2) (fun b oo hh k j t xs _ how => by
   have := (h5.olt _ _ how).2
   have := hh.2
   omega)
  simp only [hexs, Bool.false_eq_true, if_false, Bool.false_and] at hv
  cases hdst : o.dst with
  | none =>
   rw [hdst] at hv
   simp only [Rd.val, zD] at hv
   subst hv
   exact hK _ _ _ h7
  | some d =>
   rw [hdst] at hv
   simp only [Rd.val, zD] at hv
   subst hv
   have h8 := h7.fU d (av := vg (ru d false 0 s.rs y)) (oI (lI (R := fun _ dd u => Rep w' S' dd u) (fun i dd u hr => ?_) hT))
   ·refine hK _ _ _ (?_ : Inv w0 { G1 with S := fun b o => G1.S b o \/ (S' b o /\ w.heap.size <= b) } _ _ _)
    rw [dM]
    exact h8
   have hr' : Rep w' (fun b oo => G1.S b oo \/ (S' b oo /\ w.heap.size <= b)) dd u := hr.move fun b oo hs => ⟨(hS' b oo hs).1.imp id fun hb => ⟨hs, hb⟩, rfl⟩
   cases dd with
   | list t xs => exact hr'
   | int => exact hr'
   | bool => exact hr'
   | str => exact hr'
theorem abq {S : St} {k j : Nat} {x : O} (h : aU (S.aC k) j = x) (hx : x ≠ .dead) : k < S.owns.length /\ j < (S.aC k).length := by
 have hj : j < (S.aC k).length := by
  rcases Nat.lt_or_ge j (S.aC k).length with q | q
  ·exact q
  ·simp only [aU, zE] at h
   rw [zJ q] at h
   exact absurd h.symm hx
 refine ⟨?_, hj⟩
 rcases Nat.lt_or_ge k S.owns.length with q | q
 ·exact q
 ·simp only [St.aC, zE] at hj
  rw [zJ q] at hj
  simp at hj
theorem aaV {G' : Gh} {w' : World} {d : Nat} {ex : Bool} {i : Nat} {dd : D} {u : Value} {S' : Nat -> Nat -> Prop} {fp : Nat -> Prop} (hd : ji dd = none) (hw : Ow w' S' true dd u fp) : kY G' w' (Xv d ex i dd) u := by
 cases hw with
 | int k n => exact Rep.int _ _
 | bool b => exact Rep.bool _
 | str v => exact Rep.str _
 | nil => cases hd
 | ro _ _ _ hd' => cases hd'
 | list => cases hd
theorem abh (h : Inv w0 G S a w) {t : TypeId} {p : Operand} (ho : o.op = .load t p) {E : Env} (hT : E.tt.ok P = true) {agg : Bool} {n k j i sz off : Nat} {ty : Ty} {xs : List ty.den} {m : Nat}
  (hs : lk E.tt.shape t = some (agg, n)) (h1 : (dn p).val S = some (.oelt k j i sz off)) (hown : aU (S.aC k) j = .part ty xs m) {ws : List W} (hv : (Oa o agg n k j i sz off ty xs m).val S = some ws)
  (hK : ∀ a' w' G', Inv w0 G' (S.puts ws) a' w' -> K a' w') : o.wp P a w K Q := by
 obtain ⟨hlk, b, len, cap, hov, hpv⟩ := aS h h1
 unfold Oa at hv
 split at hv
 case h_2 => cases hv
 rename_i d hd
 split at hv
 case isFalse => cases hv
 rename_i hcond
 obtain ⟨hagg, hoff, hn, hsz⟩ := hcond
 subst hagg; subst hoff
 simp only [Rd.val, zB, Rd.ak, zD] at hv
 obtain ⟨x, hx, ws', h6, rfl⟩ := hv
 obtain ⟨hdO, rfl⟩ := eG h6
 split at hx
 case isFalse => cases hx
 rename_i him
 subst him
 have hO := h.owns k j
 rw [hown] at hO
 rcases hO with ⟨he, _⟩ | ⟨b', cap', arr, e, vs, fps, hv', hb, hcap, hmax, hasz, hfb, hc, hrr, hf, hdis⟩
 ·rw [hov] at he; cases he
 rw [hov] at hv'
 injection hv' with e1 e2 e3
 injection e1 with e1
 injection e1 with e1 _ _
 subst e1
 obtain ⟨hkl, hjl⟩ := abq hown (by intro e; cases e)
 have hkd : k ≠ d := fun e => by rw [e, hdO] at hjl; simp at hjl
 -- the run
 obtain ⟨td, ti, hu, hi, htsz, htd⟩ := TT.qQ hT hs
 have hcl : (ty.cells x).length = ty.size := Ty.aQ ty x
 let vals : List Value := (List.range ty.size).map fun q => vs i q
 have hvl : vals.length = ty.size := by simp [vals]
 have hvg : ∀ q, q < ty.size -> vals[q]? = some (vs i q) := fun q hq => by simp [vals, hq]
 have hrun : (execOp a.eval o).run P w = .ok (.value (.agg vals.toArray)) w := by
  have hcell : ∀ q v, vals[q]? = some v -> w.cell? ⟨b, i * sz + 0 + q, none⟩ = some v := fun q v hq => by
   have hql : q < ty.size := by rw [<- hvl]; exact (zC.1 hq).1
   rw [hvg q hql] at hq
   cases hq
   obtain ⟨dd, hdd⟩ : ∃ dd, (ty.cells x)[q]? = some dd := ⟨_, zF (by rw [hcl]; exact hql)⟩
   rw [cell_of_row w _ _ _ _ _ hb, Nat.add_zero, <- hsz]
   exact hc i x q dd hx hdd
  have := jV (P := P) (w := w) t b (i * sz + 0) td ti hu hi htd vals (by rw [hvl]; omega) hcell
  unfold execOp
  simp only [ho, hpv, Instr.loadAt, Instr.sureAddr, Sem.run_bind, Sem.run_pure, Result.andThen_ok, this]
 have hcells : aO (fun q dd u => Ow w (fun _ _ => False) true dd u (fps i q) /\ vals[q]? = some u) 0 (ty.cells x) vals := by
  have key : ∀ (ds : List D) (us : List Value) (q : Nat), ds.length = us.length -> (∀ p dd u, ds[p]? = some dd -> us[p]? = some u -> Ow w (fun _ _ => False) true dd u (fps i (q + p)) /\ vals[q + p]? = some u) -> aO (fun q dd u => Ow w (fun _ _ => False) true dd u (fps i q) /\ vals[q]? = some u) q ds us := by
   intro ds
   induction ds with
   | nil => intro us q hl _; cases us with
    | nil => trivial
    | cons _ _ => simp at hl
   | cons dd ds ih => intro us q hl hg; cases us with
    | nil => simp at hl
    | cons u us => exact ⟨hg 0 dd u rfl rfl, ih us (q + 1) (by simpa using hl) fun p dd' u' h1 h2 => by
      have := hg (p + 1) dd' u' (by simpa using h1) (by simpa using h2)
      rwa [show q + (p + 1) = q + 1 + p by omega] at this⟩
  refine key _ _ 0 (by rw [hcl, hvl]) fun q dd u h2 h3 => ?_
  have hql : q < ty.size := by rw [<- hvl]; exact (zC.1 h3).1
  rw [Nat.zero_add]
  refine ⟨?_, h3⟩
  rw [hvg q hql] at h3
  cases h3
  exact hrr i x q dd (Nat.le_refl _) hx h2
 have hpart : qB G w k j (.part ty xs (i + 1)) := gu.succ (by have := h.owns k j; rw [hown] at this; exact this)
 refine aJ hrun ?_
 by_cases hdl : d < S.tmps.length
 case neg =>
  refine hK _ _ G ?_
  have h2 := h.AB k j _ hpart
  rw [hd]
  show Inv w0 G (((S.bM k ((S.aC k).set j (.part ty xs (i + 1)))).bM d _).fU d _) _ _
  rw [Bv h.tsz hdl, vZ (by show ¬ d < (S.bM k _).owns.length; rw [h2.osz]; exact hdl), vY (S := S.bM k _) hdl]
  exact h2
 classical
 have h2 := h.AB k j .dead trivial
 have hdO1 : (S.bM k ((S.aC k).set j .dead)).aC d = [] := by
  rw [aY, if_neg (fun e => hkd e.1)]; exact hdO
 have hdead : aU ((S.bM k ((S.aC k).set j .dead)).aC k) j = .dead := by
  rw [aY, if_pos ⟨rfl, hkl⟩, fJ, if_pos ⟨rfl, hjl⟩]
 have hne : BB true (ty.cells x) ≠ [] := by
  intro e
  have : ty.cells x = [] := by simp only [BB, List.map_eq_nil_iff] at e; exact e
  have hp := ty.size_pos
  rw [<- hcl, this] at hp
  simp at hp
 have hlabd : ∀ c q, fps i q c -> (if hh : ∃ q, fps i q c then some hh.choose else none) = some q := fun c q hc => by
  have hh : ∃ q, fps i q c := ⟨q, hc⟩
  rw [dif_pos hh]
  exact congrArg some (hdis _ _ _ _ _ (Nat.le_refl _) (Nat.le_refl _) hh.choose_spec hc).2
 obtain ⟨G2, h7, m7, l7, o7, _, s7, w7⟩ := h2.rJ d (BB true (ty.cells x)) (fun q => vals.getD q undef) (fun c => if hh : ∃ q, fps i q c then some hh.choose else none) hdO1 hdl hne
  (fun c q hc => by
   split at hc
   ·rename_i hh
    obtain ⟨f1, f2, f3⟩ := hf _ _ _ (Nat.le_refl _) hh.choose_spec
    have hlt := h.kz f1
    refine ⟨hlt.1, hlt.2, fun i' hb' => ?_, fun k' j' _ _ _ _ hb' => ?_⟩
    ·rw [show G.ow c = _ from f1] at hb'; cases hb'
    ·rw [show G.ow c = _ from f1] at hb'
     cases hb'
     rw [hdead]; simp [O.fB]
   ·cases hc)
  (fun q => by
   rw [Q7]
   cases hq : (ty.cells x)[q]? with
   | none => trivial
   | some dd =>
    cases dd with
    | int => trivial
    | bool => trivial
    | str => trivial
    | list t' xs' =>
     have hql : q < ty.size := by rw [<- hcl]; exact (zC.1 hq).1
     have e : vals.getD q undef = vs i q := by simp only [zE, hvg q hql, Option.getD_some]
     refine ⟨fps i q, fun c hc => hlabd c q hc, ?_, fun b' oo hs' hb' => (hf _ _ _ (Nat.le_refl _) hb').2.2 oo hs'⟩
     rw [e]
     exact hrr i x q _ (Nat.le_refl _) hx hq)
 have hg2 : ((S.bM k ((S.aC k).set j .dead)).bM d (BB true (ty.cells x))).aC k = (S.aC k).set j .dead := by
  rw [aY, if_neg (fun e => hkd e.1.symm), aY, if_pos ⟨rfl, hkl⟩]
 have hpart2 : qB G2 w k j (.part ty xs (i + 1)) := by
  show gu w G2.S ty xs (i + 1) (G2.ov k j) (eH G2 k j)
  rw [(m7.k k hlk).2 j, hov, s7]
  have hkeep : ∀ c, G.ow c = some (.own k j) -> (¬ ∃ q, fps i q c) -> G2.ow c = some (.own k j) := fun c hc hn => by
   rw [w7, dif_neg hn]; exact hc
  refine .inr ⟨b, cap, arr, e, vs, fps, by rw [e2, e3], hb, by omega, by omega, by rw [e3]; exact hasz, hkeep b hfb (fun ⟨q, hq⟩ => (hf _ _ _ (Nat.le_refl _) hq).2.1 rfl), hc, fun i' x' q dd hi' => hrr i' x' q dd (by omega), fun i' q c hi' hcc => ?_, fun i1 q1 i2 q2 c hi1 hi2 => hdis i1 q1 i2 q2 c (by omega) (by omega)⟩
  obtain ⟨f1, f2, f3⟩ := hf _ _ _ (by omega) hcc
  refine ⟨hkeep c f1 ?_, f2, f3⟩
  rintro ⟨q', hq'⟩
  have := (hdis _ _ _ _ _ (Nat.le_refl _) (by omega) hq' hcc).1
  omega
 have h8 := h7.AB k j _ hpart2
 rw [hg2] at h8
 have hst : ((S.bM k ((S.aC k).set j .dead)).bM d (BB true (ty.cells x))).bM k (((S.aC k).set j .dead).set j (.part ty xs (i + 1))) = (S.bM k ((S.aC k).set j (.part ty xs (i + 1)))).bM d (BB true (ty.cells x)) := by
  simp only [St.bM, List.set_set]
  rw [List.set_comm _ _ (Ne.symm hkd), List.set_set]
 rw [hst] at h8
 have h9 := h8.fU d (av := .v (.agg (EI d true 0 (ty.cells x)))) (v := .agg vals.toArray) ⟨vals, rfl, xZ (R := fun q dd u => Ow w (fun _ _ => False) true dd u (fps i q) /\ vals[q]? = some u) (fun q dd u hw => by
  cases hdl2 : ji dd with
  | none => exact aaV hdl2 hw.1
  | some t' =>
   cases dd with
   | int => cases hdl2
   | bool => cases hdl2
   | str => cases hdl2
   | list t' xs' =>
    refine ⟨l7, ?_, hw.1.one⟩
    rw [o7]
    simp [hw.2]) hcells⟩
 refine hK _ _ G2 ?_
 rw [hd]
 exact h9
theorem Nr (h : Inv w0 G S a w) {E : Env} (hE : vO P E w0) {ws : List W} (hv : (eff E o).val S = some ws)
  (hK : ∀ a' w' G', Inv w0 G' (S.puts ws) a' w' -> K a' w') : o.wp P a w K Q := by
 have hT := hE.1
 cases ho : o.op with
 | move x => exact VW h (.inl ho) hv hK
 | assign x => exact VW h (.inr ho) hv hK
 | pick c x y => exact abj h ho hv hK
 | alloc e => exact Zp h ho hT hv hK
 | box e x => exact abo h ho hv hK
 | build t ps => exact Zm h ho hT hv hK
 | buildSlice t n ps => exact KQ h ho hT hv hK
 | load t p => exact abl h ho hT hv (fun agg n k j i sz off ty xs m h1 h2 h3 h4 => abh h ho hT h1 h2 h3 h4 hK) hK
 | store t p x => exact Zf h ho hT hv hK
 | nilCheck x => exact Q8 h ho hv hK
 | convert t0 t x => exact UH h ho hT hv hK
 | binOp bo t x y t' => exact Zo h ho hT hv hK
 | unOp uo t x => exact abg h ho hv hK
 | makeSlice t l c => exact OV h ho hT hv hK
 | slice t x lo hi mx => exact Zg h ho hT hv hK
 | fieldAddr s p f => exact OX h ho hT hv hK
 | field t x f => exact Zi h ho hT hv hK
 | indexAddr t x i => exact OW h ho hT hv hK
 | index t x i => exact Zh h ho hT hv hK
 | extract x i => exact UG h ho hv hK
 | call c =>
  cases hc : c.callee with
  | builtin b =>
   cases b <;> first
    | exact adN h ho hc hT hv hK
    | exact XE h ho hc hT hv hK
    | exact MR h ho (.inl hc) hv hK
    | exact MR h ho (.inr hc) hv hK
    | (unfold eff at hv; rw [ho] at hv; simp only [hc] at hv; cases hv)
  | value x =>
   cases x with
   | func f => exact abn h ho hc hE hv hK
   | tmp t => unfold eff at hv; rw [ho] at hv; simp only [hc] at hv; cases hv
   | const v => unfold eff at hv; rw [ho] at hv; simp only [hc] at hv; cases hv
   | global g => unfold eff at hv; rw [ho] at hv; simp only [hc] at hv; cases hv
  | invoke r m => unfold eff at hv; rw [ho] at hv; simp only [hc] at hv; cases hv
 | _ => unfold eff at hv; rw [ho] at hv; cases hv
end ops
end Go.Abs
