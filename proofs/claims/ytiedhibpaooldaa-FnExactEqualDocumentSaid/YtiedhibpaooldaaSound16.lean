/- Regions, whose order may be open; code. -/
import Derived.Test.YtiedhibpaooldaaSound15
set_option linter.unusedSimpArgs false
set_option linter.unusedVariables false
namespace Go.Abs
open Go.RowKit

theorem setT_self {S : St} {t : Nat} {v : AV} (h : S.getT t = v) (hne : v ≠ .undef) : S.setT t v = S := by
  cases S with
  | mk tmps boxes owns =>
    simp only [St.setT, St.getT] at *
    congr 1
    by_cases hl : t < tmps.length
    · rw [List.getD_eq_getElem?_getD, List.getElem?_eq_getElem hl] at h
      simp only [Option.getD_some] at h
      rw [← h, List.set_getElem_self]
    · rw [List.set_eq_of_length_le (by omega)]
theorem fork_some {ρ : Type} {t : Nat} {S : St} {k : St → Option ρ} {r : ρ} (h : fork t S k = some r) : k S = some r := by
  unfold fork at h
  split at h
  · rename_i b hb
    cases b with
    | true => rw [← setT_self hb (by simp)]; exact h
    | false => rw [← setT_self hb (by simp)]; exact h
  · exact h
theorem forkO_some {ρ : Type} {x : Option Nat} {S : St} {k : St → Option ρ} {r : ρ} (h : forkO x S k = some r) : k S = some r := by
  unfold forkO at h
  split at h
  · exact h
  · exact fork_some h

/-! two operations that are free of each other -/
theorem put_other {S : St} {x : W} {l : L} (h : x.loc ≠ l) : agree S (S.put x) l := by
  cases x <;> cases l <;> simp only [W.loc, ne_eq, L.t.injEq, L.b.injEq, L.o.injEq] at h <;> simp only [agree, St.put] <;>
    first
      | rfl
      | (rw [getT_setT, if_neg fun e => h e.1])
      | (rw [getB_setB, if_neg fun e => h e.1])
      | (rw [getO_setO, if_neg fun e => h e.1])
theorem agree_trans {S S' S'' : St} {l : L} (h : agree S S' l) (h' : agree S' S'' l) : agree S S'' l := by
  cases l <;> exact h'.trans h
theorem puts_other : ∀ (ws : List W) {S : St} {l : L}, (∀ x, x ∈ ws → x.loc ≠ l) → agree S (S.puts ws) l
  | [], S, l, _ => by cases l <;> rfl
  | x :: r, S, l, h => agree_trans (put_other (h x List.mem_cons_self)) (puts_other r fun y hy => h y (List.mem_cons_of_mem _ hy))
theorem put_put {S : St} {x y : W} (h : x.loc ≠ y.loc) : (S.put x).put y = (S.put y).put x := by
  have key : ∀ {α : Type} {l : List α} {i j : Nat} {a b : α}, i ≠ j → (l.set i a).set j b = (l.set j b).set i a := fun hne => List.set_comm _ _ hne
  cases x <;> cases y <;> simp only [W.loc, ne_eq, L.t.injEq, L.b.injEq, L.o.injEq] at h <;> simp only [St.put] <;>
    first
      | rfl
      | (simp only [St.setT]; rw [key h])
      | (simp only [St.setB]; rw [key h])
      | (rw [getO_setO, if_neg (by omega), getO_setO, if_neg (by omega)]; simp only [St.setO]; rw [key h])
      | (rw [getO_setO, if_neg (by omega)]; simp only [St.setO]; rw [key h])
      | (simp only [St.setO]; rw [key h])
theorem puts_put : ∀ (ws : List W) {S : St} {x : W}, (∀ y, y ∈ ws → y.loc ≠ x.loc) → (S.puts ws).put x = (S.put x).puts ws
  | [], S, x, _ => rfl
  | y :: r, S, x, h => by
    show ((S.put y).puts r).put x = ((S.put x).put y).puts r
    rw [puts_put r fun z hz => h z (List.mem_cons_of_mem _ hz), put_put (h y List.mem_cons_self)]
theorem puts_puts : ∀ (vs ws : List W) {S : St}, (∀ x y, x ∈ vs → y ∈ ws → y.loc ≠ x.loc) → (S.puts ws).puts vs = (S.puts vs).puts ws
  | [], ws, S, _ => rfl
  | x :: r, ws, S, h => by
    show ((S.puts ws).put x).puts r = ((S.put x).puts r).puts ws
    rw [puts_put ws fun y hy => h x y List.mem_cons_self hy, puts_puts r ws fun z y hz hy => h z y (List.mem_cons_of_mem _ hz) hy]
theorem meets_false {a b : List L} (h : meets a b = false) : ∀ x y, x ∈ a → y ∈ b → x ≠ y := by
  intro x y hx hy he
  simp only [meets, List.any_eq_false, List.any_eq_true, not_exists, not_and, decide_eq_true_eq] at h
  exact h x hx y hy he

/-- the operations in the text's order, and what each does -/
inductive Run (E : Env) (ops : Array Oper) : List (Oper × Nat) → St → List Lg → St → Prop
  | nil (S : St) : Run E ops [] S [] S
  | cons (o : Oper) (i : Nat) (r : List (Oper × Nat)) (S S' : St) (ws : List W) (rs : List L) (g : List Lg) (h : (stepR E ops o).valL S [] = some (ws, rs)) (hr : Run E ops r (S.puts ws) g S') :
      Run E ops ((o, i) :: r) S ({ i, reads := rs, writes := ws.map W.loc } :: g) S'
theorem opsL_run {ρ : Type} {E : Env} {ops : Array Oper} {k : St → List Lg → Option ρ} {r : ρ} : ∀ {l : List (Oper × Nat)} {S : St} {g : List Lg}, opsL E ops l S g k = some r →
    ∃ g' S', Run E ops l S g' S' ∧ k S' (g'.reverse ++ g) = some r
  | [], S, g, h => ⟨[], S, .nil S, h⟩
  | (o, i) :: l, S, g, h => by
    have h1 := forkO_some (forkO_some h)
    rw [Rd.runL_eq, Option.bind_eq_some_iff] at h1
    obtain ⟨⟨ws, rs⟩, h2, h3⟩ := h1
    obtain ⟨g', S', h4, h5⟩ := opsL_run h3
    exact ⟨_, S', .cons o i l S S' ws rs g' h2 h4, by simpa using h5⟩
theorem Run.front {E : Env} {ops : Array Oper} {o : Oper} {i : Nat} {post : List (Oper × Nat)} : ∀ {pre : List (Oper × Nat)} {S S' : St} {g : List Lg}, Run E ops (pre ++ (o, i) :: post) S g S' →
    (∀ gpre gi gpost, g = gpre ++ gi :: gpost → gpre.length = pre.length → ∀ b, b ∈ gpre → b.free gi = true) →
    ∃ ws rs gpre gpost, g = gpre ++ { i, reads := rs, writes := ws.map W.loc } :: gpost ∧ gpre.length = pre.length ∧ (stepR E ops o).valL S [] = some (ws, rs) ∧ Run E ops (pre ++ post) (S.puts ws) (gpre ++ gpost) S'
  | [], S, S', g, h, _ => by
    cases h with
    | cons _ _ _ _ _ ws rs g h1 hr => exact ⟨ws, rs, [], g, rfl, rfl, h1, hr⟩
  | (o1, i1) :: pre, S, S', g, h, hf => by
    cases h with
    | cons _ _ _ _ _ ws1 rs1 g1 h1 hr =>
      obtain ⟨ws, rs, gpre, gpost, rfl, hl, h2, h3⟩ := Run.front hr fun gpre gi gpost he hl b hb =>
        hf (_ :: gpre) gi gpost (by rw [he]; rfl) (by simp [hl]) b (List.mem_cons_of_mem _ hb)
      have hfree := hf (_ :: gpre) _ gpost rfl (by simp [hl]) _ List.mem_cons_self
      simp only [Lg.free, Bool.and_eq_true, Bool.not_eq_true'] at hfree
      obtain ⟨⟨f1, f2⟩, f3⟩ := hfree
      have e1 : (stepR E ops o).valL S [] = some (ws, rs) := Rd.valL_frame h2 fun x hx => by
        have := puts_other ws1 (S := S) (l := x) fun y hy => meets_false f1 y.loc x (List.mem_map_of_mem hy) hx
        cases x <;> exact Eq.symm this
      have e2 : (stepR E ops o1).valL (S.puts ws) [] = some (ws1, rs1) := Rd.valL_frame h1 fun x hx =>
        puts_other ws fun y hy => meets_false f3 y.loc x (List.mem_map_of_mem hy) hx
      refine ⟨ws, rs, _ :: gpre, gpost, rfl, by simp [hl], e1, ?_⟩
      refine .cons o1 i1 _ _ _ ws1 rs1 _ e2 ?_
      rw [puts_puts ws1 ws fun x y hx hy => Ne.symm (meets_false f2 x.loc y.loc (List.mem_map_of_mem hx) (List.mem_map_of_mem hy))]
      exact h3

/-! who waits for whom -/
theorem mask_bit {acc : List Nat} {o : Oper} {k : Nat} (h : (maskOf acc o).testBit k = true) : ∃ e, e ∈ o.after.toList ∧ Region.binds .any e = true ∧ (k = e.on ∨ (acc.getD e.on 0).testBit k = true) := by
  have key : ∀ (es : List Edge) (s : Nat), (es.foldl (fun s e => if Region.binds .any e then s ||| 2 ^ e.on ||| acc.getD e.on 0 else s) s).testBit k = true → s.testBit k = true ∨
      ∃ e, e ∈ es ∧ Region.binds .any e = true ∧ (k = e.on ∨ (acc.getD e.on 0).testBit k = true) := by
    intro es
    induction es with
    | nil => intro s h; exact .inl h
    | cons e es ih =>
      intro s h
      simp only [List.foldl_cons] at h
      rcases ih _ h with h1 | ⟨e', he', h2⟩
      · split at h1
        · rename_i hb
          simp only [Nat.testBit_or, Bool.or_eq_true] at h1
          rcases h1 with (h1 | h1) | h1
          · exact .inl h1
          · rw [Nat.testBit_two_pow] at h1
            exact .inr ⟨e, List.mem_cons_self, hb, .inl (by simp at h1; exact h1.symm)⟩
          · exact .inr ⟨e, List.mem_cons_self, hb, .inr h1⟩
        · exact .inl h1
      · exact .inr ⟨e', List.mem_cons_of_mem _ he', h2⟩
  rcases key _ _ h with h1 | h1
  · simp at h1
  · exact h1
theorem masks_get : ∀ (l : List Oper) (acc : List Nat) (i : Nat), (∀ i, i < acc.length → (masks acc l)[i]? = acc[i]?) ∧ (∀ o, l[i]? = some o → ∃ acc', (∀ j, j < acc'.length → (masks acc l)[j]? = acc'[j]?) ∧ acc'.length = acc.length + i ∧ (masks acc l)[acc.length + i]? = some (maskOf acc' o))
  | [], acc, i => ⟨fun _ _ => rfl, fun o h => by simp at h⟩
  | o1 :: r, acc, i => by
    have ih := masks_get r (acc ++ [maskOf acc o1])
    have h1 : ∀ i, i < acc.length → (masks acc (o1 :: r))[i]? = acc[i]? := fun i hi => by
      show (masks (acc ++ [maskOf acc o1]) r)[i]? = _
      rw [(ih 0).1 i (by simp; omega), List.getElem?_append_left hi]
    refine ⟨h1, fun o ho => ?_⟩
    cases i with
    | zero =>
      simp at ho
      subst ho
      refine ⟨acc, h1, rfl, ?_⟩
      show (masks (acc ++ [maskOf acc o1]) r)[acc.length + 0]? = _
      rw [(ih 0).1 _ (by simp)]
      simp
    | succ i =>
      obtain ⟨acc', a1, a2, a3⟩ := (ih i).2 o (by simpa using ho)
      refine ⟨acc', a1, by simp at a2; omega, ?_⟩
      have e : acc.length + (i + 1) = (acc ++ [maskOf acc o1]).length + i := by simp; omega
      rw [e]
      exact a3

section regions
variable {P : Program} {w0 : Bs} {E : Env} {ops : Array Oper} {Q : Exit → Act → World → Prop}

theorem wanted_sound {G : Gh} {S : St} {a : Act} {w : World} (h : Inv w0 G S a w) {o : Oper} {b : Bool} (hv : (wantedA ops o).val S = some b) : Region.wanted o (yielded ops a.tmps) = b := by
  unfold wantedA at hv
  unfold Region.wanted
  split at hv
  · rename_i hg
    simp only [Rd.val, Option.some.injEq] at hv
    rw [hg]; exact hv
  · rename_i j want hg
    rw [hg]
    split at hv
    · cases hv
    · rename_i t ht
      simp only [Rd.val] at hv
      have hr := h.getT t
      have hy : ∀ v, a.tmps.getD t undef = v → v ≠ undef → a.tmps[t]? = some v := by
        intro v hv hne
        cases he : a.tmps[t]? with
        | none => simp [he] at hv; exact absurd hv.symm hne
        | some u => simp [he] at hv; rw [hv]
      split at hv
      · rename_i bb hbb
        simp only [Rd.val, Option.some.injEq] at hv
        rw [hbb] at hr
        have hr' : Rep w G.S (.bool bb) (a.tmps.getD t undef) := hr
        generalize hvv : a.tmps.getD t undef = vv at hr'
        cases hr'
        have := hy _ hvv (by simp [undef])
        simp only [yielded, ht, Option.bind_some, this]
        rw [← hv]
        cases bb <;> cases want <;> rfl
      · rename_i hbb
        simp only [Rd.val, Option.some.injEq] at hv
        rw [hbb] at hr
        obtain ⟨us, hvv, hus⟩ := hr
        have hus' : us = [] := by cases us with
          | nil => rfl
          | cons => exact hus.elim
        subst hus'
        rw [← hv]
        have : yielded ops a.tmps j = none := by
          simp only [yielded, ht, Option.bind_some]
          cases he : a.tmps[t]? with
          | none => rfl
          | some u =>
            simp [he] at hvv
            rw [hvv]
        show (yielded ops a.tmps j == some want) = false
        rw [this]
        rfl
      · cases hv

theorem step_sound {G : Gh} {S : St} {a : Act} {w : World} (hE : EnvOk P E) (h : Inv w0 G S a w) {o : Oper} {i : Nat} (hi : ops[i]? = some o) {ws : List W} (hv : (stepR E ops o).val S = some ws) {K : Act → World → Prop}
    (hK : ∀ a' w' G', Inv w0 G' (S.puts ws) a' w' → K a' w') : wpOp P ops Q i K a w := by
  unfold stepR at hv
  rw [Rd.val_bind, Option.bind_eq_some_iff] at hv
  obtain ⟨b, h1, h2⟩ := hv
  have hw := wanted_sound h h1
  unfold wpOp
  rw [hi]
  simp only [hw]
  cases b with
  | true => exact .inl (eff_sound h hE h2 hK)
  | false =>
    simp only [Rd.val, Option.some.injEq] at h2
    subst h2
    exact hK _ _ _ (h.dst undef_rep)

theorem opsK_sound {ρ : Type} (hE : EnvOk P E) {k : St → Option ρ} {r : ρ} (hQ : ∀ S' a' w' G', k S' = some r → Inv w0 G' S' a' w' → Q .normal a' w') :
    ∀ {l : List Oper} {i : Nat} {G : Gh} {S : St} {a : Act} {w : World}, ops.toList.drop i = l → opsK E ops l S k = some r → Inv w0 G S a w → wpOps P ops Q (List.range' i l.length) a w
  | [], i, G, S, a, w, _, hv, h => hQ S a w G hv h
  | o :: l, i, G, S, a, w, hd, hv, h => by
    have hi : ops[i]? = some o := by
      have : (ops.toList.drop i)[0]? = some o := by rw [hd]; rfl
      rw [List.getElem?_drop] at this
      simpa using this
    have hd' : ops.toList.drop (i + 1) = l := by
      have := congrArg (List.drop 1) hd
      rw [List.drop_drop] at this
      simpa using this
    have hv1 := forkO_some (forkO_some hv)
    rw [Rd.runK_eq, Option.bind_eq_some_iff] at hv1
    obtain ⟨ws, h2, h3⟩ := hv1
    show wpOps P ops Q (i :: List.range' (i + 1) l.length) a w
    rw [wpOps_cons]
    exact step_sound hE h hi h2 fun a' w' G' h' => opsK_sound hE hQ hd' h3 h'
end regions
end Go.Abs
