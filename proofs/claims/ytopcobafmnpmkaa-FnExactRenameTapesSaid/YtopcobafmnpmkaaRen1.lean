/- Plain laws: tapes under a renaming (RenameTapes). -/
import Derived.Test.YtopcobafmnpmkaaTape1
set_option linter.unusedSimpArgs false
set_option linter.unusedVariables false
namespace Go.Proofs.Ytopcobafmnpmkaa
open Go.Abs Go.Proofs

/-! sizes, with the lengths -/
theorem SzK.add {α : Type} {f : α → Int → Option Int} {P : Prop} {x : α} {c s : Nat} (h : SzK f P x c s) (n : Nat) : SzK f P x (c + n) (s + n) := by
  intro l h0 h1
  obtain ⟨r, e, p⟩ := h l h0 h1
  refine ⟨r, e, ?_⟩
  rcases p with p | ⟨p1, p2, p3, p4⟩
  · exact .inl p
  · exact .inr ⟨p1, p2, by omega, p4⟩
theorem sum_add {α : Type} (f : α → Nat) (n : Nat) : ∀ xs : List α, (xs.map fun x => f x + n).sum = (xs.map f).sum + n * xs.length
  | [] => rfl
  | x :: xs => by
    have := sum_add f n xs
    simp only [List.map_cons, List.sum_cons, List.length_cons, Nat.mul_succ]
    omega
theorem szTapeS_len (xs : List GTape) (h : FitD B47 (.list (.base .tape) xs)) : SzK szTapeS (FitD B20 (.list (.base .tape) xs)) xs (cntTapeS xs + 18 * xs.length) 0 := by
  have := szList_ok (t := .base .tape) (f := fun e b => szTape e b) (g := szTapeS) (fun _ _ => rfl) (fun x => cntTapeE x + 18) 20 (by omega) xs (fun y _ hf => (szTape_ok y hf).add 18) h
  rw [sum_add] at this
  exact this
theorem szCellS_len (xs : List GCell) (h : FitD B47 (.list (.base .cell) xs)) : SzK szCellS (FitD B20 (.list (.base .cell) xs)) xs (20 * xs.length) 0 := by
  have := szList_ok (t := .base .cell) (f := fun e b => szCell e b) (g := szCellS) (fun _ _ => rfl) (fun x => cntCellE x + 14) 20 (by omega) xs (fun y _ hf => (szCell_ok y hf).add 14) h
  rw [sum_add] at this
  intro l h0 h1
  obtain ⟨r, e, p⟩ := this l h0 h1
  refine ⟨r, e, ?_⟩
  rcases p with p | ⟨p1, p2, p3, p4⟩
  · exact .inl p
  · have hc : 6 * xs.length ≤ (xs.map cntCellE).sum := by
      clear this p3 p4 e p1 p2 h h0 h1
      induction xs with
      | nil => simp
      | cons x xs ih =>
        simp only [List.map_cons, List.sum_cons, List.length_cons]
        have : 6 ≤ cntCellE x := by unfold cntCellE; omega
        omega
    exact .inr ⟨p1, p2, by omega, p4⟩
theorem szNotebook_len (x : GNotebook) (h : Fit B47 (.base .notebook) x) : SzK szNotebook (Fit B20 (.base .notebook) x) x (20 * x.cells.length) 0 := by
  intro l h0 h1
  rw [fit_notebook] at h ⊢
  unfold szNotebook
  obtain ⟨r1, e1, p1⟩ := szCellS_len x.cells h l (by omega) (by omega)
  rw [e1, Option.bind_some]
  rcases p1 with p1 | ⟨a1, b1, d1, p1⟩
  · exact ⟨-1, by simp only [p1, decide_true, cond_true], .inl (by omega)⟩
  rw [decide_eq_false (show ¬ r1 < 0 by omega), cond_false]
  exact ⟨r1, rfl, .inr ⟨by omega, by omega, by omega, p1⟩⟩

/-! the loops -/
theorem filterLoop {α X ρ : Type} {g : X → Option (X ⊕ ρ)} (pk : List α → Nat → X) (xs : List α) (p : α → Bool) (fin : Option ρ)
    (h1 : ∀ i x s, xs[i]? = some x → s.length ≤ i → g (pk s i) = some (.inl (pk (bif p x then s ++ [x] else s) (i + 1))))
    (h2 : g (pk (xs.filter p) xs.length) = fin.bind fun r => some (.inr r)) : loopD g (pk [] 0) = fin := by
  have key : ∀ (n i : Nat), xs.length = i + n → loopD g (pk ((xs.take i).filter p) i) = fin := by
    intro n
    induction n with
    | zero =>
      intro i hi
      have : i = xs.length := by omega
      subst this
      rw [loopD_eq, List.take_length, h2]
      cases fin <;> rfl
    | succ n ih =>
      intro i hi
      have hlt : i < xs.length := by omega
      have hx := List.getElem?_eq_getElem hlt
      have hl : ((xs.take i).filter p).length ≤ i := Nat.le_trans (List.length_filter_le _ _) (by simp; omega)
      rw [loopD_eq, h1 i _ _ hx hl]
      have e : (xs.take (i + 1)).filter p = bif p xs[i] then (xs.take i).filter p ++ [xs[i]] else (xs.take i).filter p := by
        rw [take_snoc hx, List.filter_append]
        cases hp : p xs[i] <;> simp [hp]
      simp only
      rw [← e]
      exact ih (i + 1) (by omega)
  exact key xs.length 0 (by omega)
/-- not of this version of this cell -/
noncomputable def notKey (c v : Int) (t : GTape) : Bool := !keyT c v t
theorem notKey_eq (c v : Int) (t : GTape) : notKey c v t = bif (t.cell != c) then true else (t.version != v) := by
  unfold notKey keyT
  rw [bne_dec, bne_dec]
  cases eqd t.cell c <;> cases eqd t.version v <;> rfl
theorem sL38Without_ok (a : List GTape) (b c : Int) (h : (a.length : Int) ≤ 2097152) : sL38Without a b c = some (a.filter (notKey b c)) := by
  have hl : a.length < 4611686018427387904 := by omega
  refine filterLoop (fun (s : List GTape) (i : Nat) => ((a, b, c, s, (i : Int)) : (List GTape) × Int × Int × (List GTape) × Int)) a (notKey b c) (some (a.filter (notKey b c))) (fun i x s hx hs => ?_) ?_
  · have hi := (List.getElem?_eq_some_iff.1 hx).1
    simp only [dec_lt hx, cond_true, idx_nat, hx, Option.bind_some, gd_ok (show s.length + [x].length ≤ 34359738368 by simp; omega), w_succ hx hl, notKey_eq]
    cases (x.cell != b) <;> cases (x.version != c) <;> rfl
  · simp only [nlt_self, cond_false]; rfl

/-! places of cells -/
noncomputable def verOf (cs : List GCell) (id : Int) : Int := match cs.find? (fun c => c.id == id) with
  | some c => c.version
  | none => 0
theorem firstAt_find {α : Type} (p : α → Bool) : ∀ (xs : List α) (i : Nat), (firstAt p xs i = -1 ∧ xs.find? p = none) ∨ ∃ (n : Nat) (x : α), firstAt p xs i = ((i + n : Nat) : Int) ∧ xs[n]? = some x ∧ xs.find? p = some x ∧ p x = true
  | [], i => .inl ⟨rfl, rfl⟩
  | y :: ys, i => by
    unfold firstAt
    rw [List.find?_cons]
    cases hp : p y with
    | true => exact .inr ⟨0, y, by simp, rfl, rfl, hp⟩
    | false =>
      rcases firstAt_find p ys (i + 1) with ⟨h1, h2⟩ | ⟨n, x, h1, h2, h3, h4⟩
      · exact .inl ⟨by rw [cond_false, h1], h2⟩
      · refine .inr ⟨n + 1, x, ?_, by simpa using h2, h3, h4⟩
        rw [cond_false, h1]
        have : i + 1 + n = i + (n + 1) := by omega
        rw [this]
theorem sL38Version_ok (a : GNotebook) (b : Int) (h : a.cells.length < lim) (hb : (a.cells.find? fun c => c.id == b).isSome = true) : sL38Version a b = some (verOf a.cells b) := by
  unfold sL38Version verOf
  rw [sCellIndex_ok a b h, Option.bind_some]
  rcases firstAt_find (fun c : GCell => c.id == b) a.cells 0 with ⟨h1, h2⟩ | ⟨n, x, h1, h2, h3, _⟩
  · rw [h2] at hb; cases hb
  · rw [h1, h3, Nat.zero_add, idx_nat, h2]; rfl
theorem iVersionIn_ok (a : GNotebook) (b : Int) (h : a.cells.length < lim) (hb : (a.cells.find? fun c => c.id == b).isSome = true) : iVersionIn a b = some (verOf a.cells b) := by
  unfold iVersionIn verOf
  rw [iCellIndex_ok a b h, Option.bind_some]
  rcases firstAt_find (fun c : GCell => c.id == b) a.cells 0 with ⟨h1, h2⟩ | ⟨n, x, h1, h2, h3, _⟩
  · rw [h2] at hb; cases hb
  · rw [h1, h3, Nat.zero_add, idx_nat, h2]; rfl
theorem cvStep_mem {bs : List GCell} {s : List Int} {c : GCell} {v : Int} (h : v ∈ cvStep bs s c) : v ∈ s ∨ (v = c.id ∧ (bs.find? fun d => d.id == c.id).isSome = true) := by
  unfold cvStep at h
  rcases firstAt_find (fun d : GCell => d.id == c.id) bs 0 with ⟨h1, h2⟩ | ⟨n, x, h1, h2, h3, _⟩
  · rw [h1] at h; exact .inl h
  · rw [h1, Nat.zero_add, show decide (((n : Nat) : Int) ≥ 0) = true by simp, cond_true, idx_nat, h2] at h
    simp only at h
    cases hv : (x.version != c.version) with
    | false => rw [hv] at h; exact .inl h
    | true =>
      rw [hv, cond_true] at h
      rcases List.mem_append.1 h with h | h
      · exact .inl h
      · exact .inr ⟨by simpa using h, by rw [h3]; rfl⟩
theorem cv_mem (bs : List GCell) : ∀ (cs : List GCell) (s : List Int) (v : Int), v ∈ cs.foldl (cvStep bs) s → v ∈ s ∨ ((∃ c, c ∈ cs ∧ v = c.id) ∧ (bs.find? fun d => d.id == v).isSome = true)
  | [], s, v, h => .inl h
  | c :: cs, s, v, h => by
    rcases cv_mem bs cs _ v h with h | ⟨⟨d, hd, e⟩, h2⟩
    · rcases cvStep_mem h with h | ⟨e, h'⟩
      · exact .inl h
      · exact .inr ⟨⟨c, List.mem_cons_self, e⟩, e ▸ h'⟩
    · exact .inr ⟨⟨d, List.mem_cons_of_mem _ hd, e⟩, h2⟩
theorem cv_len (bs : List GCell) : ∀ (cs : List GCell) (s : List Int), (cs.foldl (cvStep bs) s).length ≤ s.length + cs.length
  | [], s => by simp
  | c :: cs, s => by
    have h1 := cv_len bs cs (cvStep bs s c)
    have h2 := cvStep_len bs s c
    simp only [List.foldl_cons, List.length_cons]
    omega

/-! one renamed version -/
noncomputable def renT (l : List GTape) (id fr to : Int) : List GTape := putT (l.filter (notKey id to)) id to (readsOf l id fr)
theorem filter_key (l : List GTape) (c v : Int) : (l.filter (notKey c v)).any (keyT c v) = false := by
  rw [List.any_eq_false]
  intro x hx
  have := (List.mem_filter.1 hx).2
  unfold notKey at this
  simpa using this
theorem renT_mem {l : List GTape} {id fr to : Int} {t : GTape} (h : t ∈ renT l id fr to) : t ∈ l ∨ t = GTape.mk id to (mergeR [] (readsOf l id fr)) := by
  unfold renT putT at h
  rw [filter_key, cond_false] at h
  split at h
  · exact .inl (List.mem_filter.1 h).1
  · rename_i r rs e
    rcases insT_mem h with h | h
    · exact .inr h
    · exact .inl (List.mem_filter.1 h).1
theorem renT_len (l : List GTape) (id fr to : Int) : (renT l id fr to).length ≤ l.length + 1 :=
  Nat.le_trans (putT_len _ _ _ _).2 (Nat.add_le_add_right (List.length_filter_le _ _) 1)
/-- what the loop keeps -/
def RenI (N C : Nat) (l : List GTape) : Prop := FitD B20 (.list (.base .tape) l) ∧ l.length ≤ N ∧ ∀ t ∈ l, cntTapeE t ≤ C
theorem merge_cnt (b : List GRead) : cntReadS (mergeR [] b) ≤ cntReadS b := by
  obtain ⟨t, e, h⟩ := merge_append b []
  rw [e, List.nil_append]
  exact sub_sum cntReadE h
theorem renT_ok {N C : Nat} {l : List GTape} {id fr to : Int} (h : RenI N C l) (hN : N + 1 ≤ 1048576) (hC : 2 ≤ C) (hi : FitD B20 (.int .i64 id)) (ht : FitD B20 (.int .i64 to)) : RenI (N + 1) C (renT l id fr to) := by
  obtain ⟨h1, h2, h3⟩ := h
  have hr := readsOf_fit l id fr h1
  have hrl := list20 hr
  have hn := renT_len l id fr to
  have key : ∀ t ∈ renT l id fr to, Fit B20 (.base .tape) t ∧ cntTapeE t ≤ C := by
    intro t ht'
    rcases renT_mem ht' with ht' | rfl
    · exact ⟨h1.list_mem t ht', h3 t ht'⟩
    · refine ⟨fit_tape.2 ⟨hi, ht, mergeR_fit (mkList20 (by simp) fun x hx => by cases hx) hr (by simp; omega)⟩, ?_⟩
      rw [cntTapeE_eq]
      have hm := merge_cnt (readsOf l id fr)
      show 1 + 1 + cntReadS (mergeR [] (readsOf l id fr)) ≤ C
      rcases readsOf_mem l id fr with e | ⟨u, hu, e⟩
      · rw [e] at hm ⊢
        have : cntReadS [] = 0 := rfl
        omega
      · rw [e] at hm ⊢
        have := h3 u hu
        rw [cntTapeE_eq] at this
        omega
  exact ⟨mkList20 (by omega) fun t ht => (key t ht).1, by omega, fun t ht => (key t ht).2⟩
theorem filter_fit {l : List GTape} (h : FitD B20 (.list (.base .tape) l)) (p : GTape → Bool) : FitD B20 (.list (.base .tape) (l.filter p)) := by
  have := list20 h
  have := List.length_filter_le p l
  exact mkList20 (by omega) fun x hx => h.list_mem x (List.mem_filter.1 hx).1

/-! the law -/
theorem verOf_fit {L : Nat} {cs : List GCell} (h : FitD L (.list (.base .cell) cs)) (id : Int) : FitD L (.int .i64 (verOf cs id)) := by
  unfold verOf
  split
  · rename_i c hc
    have := h.list_mem c (List.mem_of_find?_eq_some hc)
    rw [fit_cell] at this
    exact this.2.1
  · exact .int _ _ (by decide)
theorem changedVersions_val (a b : GNotebook) (ha : (a.cells.length : Int) ≤ 1048576) (hb : (b.cells.length : Int) ≤ 1048576) :
    sChangedVersions a b = some (a.cells.foldl (cvStep b.cells) []) ∧ iChangedVersions a b = some (a.cells.foldl (cvStep b.cells) []) := by
  obtain ⟨w, h1, h2, h3, h4⟩ := changedVersions_eqV a b ha hb
  exact ⟨by rw [h1, h4], by rw [h2, h4]⟩
noncomputable def renF (A B : List GCell) (l : List GTape) (id : Int) : List GTape := renT l id (verOf A id) (verOf B id)
theorem renameTapes_eq (a : List GTape) (A B : GNotebook) (ha : FitD B20 (.list (.base .tape) a)) (hA : Fit B20 (.base .notebook) A) (hB : Fit B20 (.base .notebook) B) (hn : a.length + A.cells.length ≤ 1048576) :
    ∃ w, sRenameTapes a A B = some w ∧ iRenameTapes a A B = some w ∧ ∀ C, 2 ≤ C → (∀ t ∈ a, cntTapeE t ≤ C) → RenI 1048576 C w := by
  rw [fit_notebook] at hA hB
  have lA := list20 hA
  have lB := list20 hB
  have kA : A.cells.length < lim := lim20 lA
  have kB : B.cells.length < lim := lim20 lB
  obtain ⟨v1, v2⟩ := changedVersions_val A B lA lB
  have hlen := cv_len B.cells A.cells []
  have hmem : ∀ v, v ∈ A.cells.foldl (cvStep B.cells) [] → FitD B20 (.int .i64 v) ∧ (A.cells.find? fun c => c.id == v).isSome = true ∧ (B.cells.find? fun c => c.id == v).isSome = true := by
    intro v hv
    rcases cv_mem B.cells A.cells [] v hv with h | ⟨⟨c, hc, rfl⟩, h⟩
    · cases h
    · have := hA.list_mem c hc
      rw [fit_cell] at this
      exact ⟨this.1, by rw [List.find?_isSome]; exact ⟨c, hc, by simp⟩, h⟩
  unfold sRenameTapes iRenameTapes
  rw [sL26Copy_ok a ha, iCopyTapes_ok a ha, v1, v2]
  simp only [Option.bind_some]
  generalize hw : A.cells.foldl (cvStep B.cells) [] = w at *
  simp only [List.length_nil, Nat.zero_add] at hlen
  have wl : w.length < 4611686018427387904 := by omega
  have fin : ∀ C, 2 ≤ C → (∀ t ∈ a, cntTapeE t ≤ C) → RenI 1048576 C (w.foldl (renF A.cells B.cells) a) := by
    intro C hC hc
    have key : ∀ (w' : List Int) (l : List GTape) (N : Nat), (∀ v, v ∈ w' → FitD B20 (.int .i64 v)) → RenI N C l → N + w'.length ≤ 1048576 → RenI 1048576 C (w'.foldl (renF A.cells B.cells) l) := by
      intro w'
      induction w' with
      | nil => intro l N _ h hN; exact ⟨h.1, by have := h.2.1; simp only [List.length_nil] at hN; show l.length ≤ 1048576; omega, h.2.2⟩
      | cons v w' ih =>
        intro l N hv h hN
        simp only [List.length_cons] at hN
        exact ih _ (N + 1) (fun x hx => hv x (List.mem_cons_of_mem _ hx)) (renT_ok h (by omega) hC (hv v List.mem_cons_self) (verOf_fit hB v)) (by omega)
    exact key w a a.length (fun v hv => (hmem v hv).1) ⟨ha, Nat.le_refl _, hc⟩ (by omega)
  have hcn : ∃ C, 2 ≤ C ∧ ∀ t ∈ a, cntTapeE t ≤ C := by
    refine ⟨2 + (a.map cntTapeE).sum, by omega, ?_⟩
    have : ∀ (l : List GTape) (t : GTape), t ∈ l → cntTapeE t ≤ (l.map cntTapeE).sum := by
      intro l
      induction l with
      | nil => intro t h; cases h
      | cons u l ih =>
        intro t h
        simp only [List.map_cons, List.sum_cons]
        rcases List.mem_cons.1 h with rfl | h
        · omega
        · have := ih t h; omega
    intro t ht
    have := this a t ht
    omega
  obtain ⟨C, hC, hc⟩ := hcn
  have step : ∀ (i : Nat) (v : Int) (l : List GTape), w[i]? = some v → RenI (a.length + i) C l → RenI (a.length + (i + 1)) C (renF A.cells B.cells l v) ∧ FitD B20 (.list (.base .tape) (l.filter (notKey v (verOf B.cells v)))) ∧
      sPutTape (l.filter (notKey v (verOf B.cells v))) v (verOf B.cells v) (readsOf l v (verOf A.cells v)) = some (renF A.cells B.cells l v) ∧
      iPutTape (l.filter (notKey v (verOf B.cells v))) v (verOf B.cells v) (readsOf l v (verOf A.cells v)) = some (renF A.cells B.cells l v) := by
    intro i v l hv h
    have hi := (List.getElem?_eq_some_iff.1 hv).1
    have hff := filter_fit h.1 (notKey v (verOf B.cells v))
    have hrf := readsOf_fit l v (verOf A.cells v) h.1
    have hrl := list20 hrf
    have hM : (readsOf (l.filter (notKey v (verOf B.cells v))) v (verOf B.cells v)).length + (readsOf l v (verOf A.cells v)).length ≤ 1048576 := by
      rw [readsOf_none (filter_key l v (verOf B.cells v))]
      simp; omega
    exact ⟨renT_ok (N := a.length + i) h (by omega) hC (hmem v (List.mem_of_getElem? hv)).1 (verOf_fit hB v), hff, sPutTape_okR _ _ _ _ hff hrf hM, iPutTape_okR _ _ _ _ hff hrf hM⟩
  have h0 : RenI (a.length + 0) C a := ⟨ha, Nat.le_refl _, hc⟩
  refine ⟨w.foldl (renF A.cells B.cells) a, ?_, ?_, fin⟩
  · refine (loop_foldI (fun (s : List GTape) (i : Nat) => ((A.cells, B.cells, s, w, (i : Int)) : (List GCell) × (List GCell) × (List GTape) × (List Int) × Int)) w (renF A.cells B.cells) id (fun i s => RenI (a.length + i) C s)
      (fun i v s hv h => (step i v s hv h).1) (fun i v s hv h => ?_) (fun s _ => ?_) a h0).1
    · obtain ⟨p1, p2, p3, p4⟩ := step i v s hv h
      obtain ⟨m1, m2, m3⟩ := hmem v (List.mem_of_getElem? hv)
      have sl := list20 h.1
      have hw2 := w_succ hv wl
      simp only [dec_lt hv, cond_true, idx_nat, hv, Option.bind_some, Int.toNat_natCast, sL38Version_ok (GNotebook.mk A.cells) v kA m2, sL38Version_ok (GNotebook.mk B.cells) v kB m3, sTapeOf_ok s v _ h.1, sL38Without_ok s v _ (show (s.length : Int) ≤ 2097152 by omega), p3, hw2]
    · simp only [nlt_self, cond_false]; rfl
  · refine (loop_foldI (fun (s : List GTape) (i : Nat) => ((A.cells, B.cells, s, w, (w.length : Int), (i : Int)) : (List GCell) × (List GCell) × (List GTape) × (List Int) × Int × Int)) w (renF A.cells B.cells) id (fun i s => RenI (a.length + i) C s)
      (fun i v s hv h => (step i v s hv h).1) (fun i v s hv h => ?_) (fun s _ => ?_) a h0).1
    · obtain ⟨p1, p2, p3, p4⟩ := step i v s hv h
      obtain ⟨m1, m2, m3⟩ := hmem v (List.mem_of_getElem? hv)
      have sl := list20 h.1
      have hw2 := w_succ hv wl
      simp only [dec_lt hv, cond_true, idx_nat, hv, Option.bind_some, Int.toNat_natCast, iVersionIn_ok (GNotebook.mk B.cells) v kB m3]
      refine filterLoop (fun (u : List GTape) (q : Nat) => ((A.cells, B.cells, s, v, verOf B.cells v, u, w, (w.length : Int), (i : Int), s, (s.length : Int), (q : Int)) : (List GCell) × (List GCell) × (List GTape) × Int × Int × (List GTape) × (List Int) × Int × Int × (List GTape) × Int × Int)) s (notKey v (verOf B.cells v)) _ (fun q x u hx hu => ?_) ?_
      · have hq := (List.getElem?_eq_some_iff.1 hx).1
        simp only [dec_lt hx, cond_true, idx_nat, hx, Option.bind_some, gd_ok (show u.length + [x].length ≤ 34359738368 by simp; omega), w_succ hx (lim20 sl), notKey_eq]
        cases (x.cell != v) <;> cases (x.version != verOf B.cells v) <;> rfl
      · simp only [nlt_self, cond_false, iVersionIn_ok (GNotebook.mk A.cells) v kA m2, Option.bind_some, iTapeOf_ok s v _ h.1, p4, hw2]
    · simp only [nlt_self, cond_false]; rfl
theorem renI_cnt {N C : Nat} {l : List GTape} (h : RenI N C l) : cntTapeS l ≤ N * C := by
  rw [cntTapeS_eq]
  exact Nat.le_trans (sum_le cntTapeE l C h.2.2) (Nat.mul_le_mul_right _ h.2.1)
theorem law_FnExactRenameTapes (a : List GTape) (A B : GNotebook) (ha : FitD B47 (.list (.base .tape) a)) (hA : Fit B47 (.base .notebook) A) (hB : Fit B47 (.base .notebook) B) : FnExactRenameTapes a A B = some true := by
  refine law1c (szTapeS_len a ha) _ (by omega) (by omega) fun pa r1 h0 h1 hc => ?_
  refine law1c (szNotebook_len A hA) _ (by omega) (by omega) fun pA r2 h2 h3 hcA => ?_
  refine law1 (szNotebook_ok B hB) _ (by omega) (by omega) fun pB r3 h4 h5 => ?_
  have h2a : 2 * a.length ≤ cntTapeS a := by
    rw [cntTapeS_eq]
    clear hc h1 h0 hcA h2 h3 pa ha
    induction a with
    | nil => simp
    | cons x xs ih =>
      simp only [List.map_cons, List.sum_cons, List.length_cons]
      have : 2 ≤ cntTapeE x := by rw [cntTapeE_eq]; omega
      omega
  obtain ⟨w, hs, hi, hw⟩ := renameTapes_eq a A B pa pA pB (by omega)
  have hle : ∀ t ∈ a, cntTapeE t ≤ 20971520 := by
    intro t ht
    have : ∀ (l : List GTape) (t : GTape), t ∈ l → cntTapeE t ≤ (l.map cntTapeE).sum := by
      intro l
      induction l with
      | nil => intro t h; cases h
      | cons u l ih =>
        intro t h
        simp only [List.map_cons, List.sum_cons]
        rcases List.mem_cons.1 h with rfl | h
        · omega
        · have := ih t h; omega
    have := this a t ht
    rw [← cntTapeS_eq] at this
    omega
  have hR := hw 20971520 (by omega) hle
  have hwc := renI_cnt hR
  have oa := okTapeSF (pa.mono le24)
  obtain ⟨oA, nA⟩ := okNotebook24 (pA.mono le24)
  obtain ⟨oB, nB⟩ := okNotebook24 (pB.mono le24)
  have ow := okTapeSF (hR.1.mono le24)
  have na : (cntTapeS a : Int) ≤ 20971520 := by omega
  have nw : (cntTapeS w : Int) ≤ 21990232555520 := by omega
  obtain ⟨y1, e1, _⟩ := markTapeS_ok a oa 1 (by omega) (by omega)
  obtain ⟨y2, e2, _⟩ := markNotebook_ok A oA (1 + (cntTapeS a : Nat)) (by omega) (by omega)
  obtain ⟨y3, e3, _⟩ := markNotebook_ok B oB (1 + (cntTapeS a : Nat) + (cntNotebook A : Nat)) (by omega) (by omega)
  obtain ⟨y4, e4, e5⟩ := markTapeS_ok w ow 1 (by omega) (by omega)
  simp only [toTapeS_ok a pa, toNotebook_ok A pA, toNotebook_ok B pB, hs, hi, eqTapeS_ok a pa, eqTapeS_ok w hR.1, eqNotebook_ok A pA, eqNotebook_ok B pB, e1, e2, e3, e4, e5, Option.bind_some, Bool.not_true, cond_false,
    decide_eq_false (show ¬ (1 + (cntTapeS a : Nat) + (cntNotebook A : Nat) + (cntNotebook B : Nat) : Int) < 0 by omega), decide_eq_false (show ¬ (1 + (cntTapeS w : Nat) : Int) < 0 by omega), bne_self_i]
end Go.Proofs.Ytopcobafmnpmkaa
