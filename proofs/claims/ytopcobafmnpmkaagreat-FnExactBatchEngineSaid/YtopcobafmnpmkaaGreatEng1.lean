/- Plain laws: engines (copies, edits, BatchEngine). -/
import Derived.Test.YtopcobafmnpmkaaGreatTape1
set_option linter.unusedSimpArgs false
set_option linter.unusedVariables false
namespace Go.Proofs.YtopcobafmnpmkaaGreat
open Go.Abs Go.Proofs

theorem entry_of {l : List GEntry} (h : FitD B20 (.list (.base .entry) l)) {t : GEntry} (ht : t ∈ l) : FitD B20 (.list (.base .int) t.inputs) ∧ Fit B20 (.base .val) t.value := by
  have := h.list_mem t ht
  rw [fit_entry] at this
  exact ⟨this.2.2.2.1, this.2.2.2.2.1⟩
theorem sL28Entry_ok (x : GEntry) (h1 : FitD B20 (.list (.base .int) x.inputs)) (h2 : Fit B20 (.base .val) x.value) : sL28Entry x = some x := by
  have := list20 h1
  unfold sL28Entry
  rw [gd_ok (by omega), Option.bind_some, reVal_eq, sL3Copy_ok _ h2, Option.bind_some, reVal_eq]; rfl
theorem iCopyWorld_ok (x : GWorld) (h : Fit B20 (.base .world) x) : iCopyWorld x = some x := by
  rw [fit_world] at h
  have := list20 h.2.2
  unfold iCopyWorld
  rw [gd_ok (by omega), Option.bind_some]; rfl
theorem sL14Copy_ok (x : GWorld) (h : Fit B20 (.base .world) x) : sL14Copy x = some x := by
  rw [fit_world] at h
  have := list20 h.2.2
  unfold sL14Copy
  rw [gd_ok (by omega), Option.bind_some]; rfl
theorem iCopyEngine_ok (a : GEngine) (h : Fit B20 (.base .engine) a) : iCopyEngine a = some a := by
  rw [fit_engine] at h
  obtain ⟨h1, h2, h3, h4, _⟩ := h
  have l1 := nb_len h1
  have l := list20 h4
  unfold iCopyEngine
  rw [copyI _ (by omega), iCopyWorld_ok _ h2, iCopyTapes_ok _ h3]
  simp only [Option.bind_some]
  refine copyApp (fun (s : List GEntry) (i : Nat) => (([], 0, 0, [], [], [], 0, 0, 0, a.notebook.cells, a.world.clock, a.world.seed, a.world.files, a.tapes, s, a.next, a.limit, a.work, a.entries, (a.entries.length : Int), (i : Int)) :
    (List GCell) × Int × Int × (List GFile) × (List GTape) × (List GEntry) × Int × Int × Int × (List GCell) × Int × Int × (List GFile) × (List GTape) × (List GEntry) × Int × Int × Int × (List GEntry) × Int × Int)) a.entries (some a) (fun i y hy hl => ?_) ?_
  · have hi := (List.getElem?_eq_some_iff.1 hy).1
    obtain ⟨f1, f2⟩ := entry_of h4 (List.mem_of_getElem? hy)
    have := list20 f1
    have ey : GEntry.mk y.cell y.version y.stamp y.inputs y.value y.has = y := rfl
    simp only [dec_lt hy, cond_true, idx_nat, hy, Option.bind_some, gd_ok (show 0 + y.inputs.length ≤ 34359738368 by omega), reVal_eq, iCopyValue_ok _ f2, List.nil_append, ey,
      gd_ok (show (a.entries.take i).length + [y].length ≤ 34359738368 by simp only [hl, List.length_singleton]; omega), w_succ hy (lim20 l)]
  · simp only [nlt_self, cond_false]; rfl
theorem sL28Copy_ok (a : GEngine) (h : Fit B20 (.base .engine) a) : sL28Copy a = some a := by
  rw [fit_engine] at h
  obtain ⟨h1, h2, h3, h4, _⟩ := h
  have l1 := nb_len h1
  have l := list20 h4
  unfold sL28Copy
  rw [copyS _ (by omega), sL14Copy_ok _ h2, sL26Copy_ok _ h3]
  simp only [Option.bind_some]
  refine copyApp (fun (s : List GEntry) (i : Nat) => ((a.notebook.cells, a.world.clock, a.world.seed, a.world.files, a.tapes, a.entries, a.next, a.limit, a.work, [], 0, 0, [], [], [], 0, 0, 0, a.notebook.cells, a.world.clock, a.world.seed, a.world.files, a.tapes, s, a.next, a.limit, a.work, (i : Int)) :
    (List GCell) × Int × Int × (List GFile) × (List GTape) × (List GEntry) × Int × Int × Int × (List GCell) × Int × Int × (List GFile) × (List GTape) × (List GEntry) × Int × Int × Int × (List GCell) × Int × Int × (List GFile) × (List GTape) × (List GEntry) × Int × Int × Int × Int)) a.entries (some a) (fun i y hy hl => ?_) ?_
  · have hi := (List.getElem?_eq_some_iff.1 hy).1
    obtain ⟨f1, f2⟩ := entry_of h4 (List.mem_of_getElem? hy)
    simp only [dec_lt hy, cond_true, idx_nat, hy, Option.bind_some, reEntry_eq, sL28Entry_ok y f1 f2,
      gd_ok (show (a.entries.take i).length + [y].length ≤ 34359738368 by simp only [hl, List.length_singleton]; omega), w_succ hy (lim20 l)]
  · simp only [nlt_self, cond_false]; rfl

/-! edits of an engine -/
theorem filterApp {α X ρ : Type} {g : X → Option (X ⊕ ρ)} (pk : List α → Nat → X) (xs : List α) (p : α → Bool) (fin : Option ρ)
    (h1 : ∀ i x s, xs[i]? = some x → s.length ≤ i → g (pk s i) = some (.inl (pk (bif p x then s ++ [x] else s) (i + 1))))
    (h2 : g (pk (xs.filter p) xs.length) = fin.bind fun r => some (.inr r)) : loopD g (pk [] 0) = fin := by
  have key : ∀ (n i : Nat), xs.length = i + n → loopD g (pk ((xs.take i).filter p) i) = fin := by
    intro n
    induction n with
    | zero =>
      intro i hi
      have : i = xs.length := by omega
      subst this
      rw [loopD_eq, List.take_length, h2]
      cases fin <;> rfl
    | succ n ih =>
      intro i hi
      have hlt : i < xs.length := by omega
      have hx := List.getElem?_eq_getElem hlt
      have hl : ((xs.take i).filter p).length ≤ i := Nat.le_trans (List.length_filter_le _ _) (by simp; omega)
      rw [loopD_eq, h1 i _ _ hx hl]
      have e : (xs.take (i + 1)).filter p = bif p xs[i] then (xs.take i).filter p ++ [xs[i]] else (xs.take i).filter p := by
        rw [take_snoc hx, List.filter_append]
        cases hp : p xs[i] <;> simp [hp]
      simp only
      rw [← e]
      exact ih (i + 1) (by omega)
  exact key xs.length 0 (by omega)
/-- is there a cell of this entry -/
def keepE (cs : List GCell) (x : GEntry) : Bool := decide (firstAt (fun c => c.id == x.cell) cs 0 ≥ 0)
theorem filterE_fit {l : List GEntry} (h : FitD B20 (.list (.base .entry) l)) (p : GEntry → Bool) : FitD B20 (.list (.base .entry) (l.filter p)) := by
  have := list20 h
  have := List.length_filter_le p l
  exact mkList20 (by omega) fun x hx => h.list_mem x (List.mem_filter.1 hx).1
theorem filter_sum {α : Type} (f : α → Nat) (p : α → Bool) (l : List α) : ((l.filter p).map f).sum ≤ (l.map f).sum := by
  induction l with
  | nil => simp
  | cons x l ih =>
    rw [List.filter_cons]
    split
    · simp only [List.map_cons, List.sum_cons]; omega
    · simp only [List.map_cons, List.sum_cons]; omega
/-- what an edit keeps of an engine: the bound of its entries and tapes -/
def EngI (T N F : Nat) (a : GEngine) : Prop := Fit B20 (.base .engine) a ∧ cntTapeS a.tapes ≤ T ∧ cntEntryS a.entries ≤ N ∧ cntFileS a.world.files ≤ F
theorem editEngine_eq {T N F : Nat} (a : GEngine) (b : GEdit) (ha : EngI T N F a) (hb : Fit B20 (.base .edit) b) : ∃ r, sEditEngine a b = some r ∧ iEditEngine a b = some r ∧ EngI T N F r.1 := by
  obtain ⟨ha, hT, hN, hF⟩ := ha
  have fa := ha; rw [fit_engine] at fa
  obtain ⟨h1, h2, h3, h4, h5, h6, h7⟩ := fa
  have l := list20 h4
  obtain ⟨w, n, e1, e2, hw⟩ := applyEdit_eq a.notebook b h1 hb
  have lw := nb_len hw
  unfold sEditEngine iEditEngine
  rw [e1, e2, sL28Copy_ok a ha, iCopyEngine_ok a ha]
  simp only [Option.bind_some]
  cases hn : (n != 0) with
  | true => exact ⟨(a, n), rfl, rfl, ha, hT, hN, hF⟩
  | false =>
    simp only [cond_false]
    let r : GEngine := GEngine.mk w a.world a.tapes (a.entries.filter (keepE w.cells)) a.next a.limit a.work
    have fr : Fit B20 (.base .engine) r := by
      rw [fit_engine]
      exact ⟨hw, h2, h3, filterE_fit h4 _, h5, h6, h7⟩
    refine ⟨(r, 0), ?_, ?_, fr, hT, Nat.le_trans (filter_sum cntEntryE _ _) hN, hF⟩
    · refine filterApp (fun (s : List GEntry) (i : Nat) => ((a.notebook.cells, a.world.clock, a.world.seed, a.world.files, a.tapes, a.entries, a.next, a.limit, a.work, [], 0, 0, [], [], [], 0, 0, 0, w.cells, a.world.clock, a.world.seed, a.world.files, a.tapes, s, a.next, a.limit, a.work, (i : Int)) :
        (List GCell) × Int × Int × (List GFile) × (List GTape) × (List GEntry) × Int × Int × Int × (List GCell) × Int × Int × (List GFile) × (List GTape) × (List GEntry) × Int × Int × Int × (List GCell) × Int × Int × (List GFile) × (List GTape) × (List GEntry) × Int × Int × Int × Int)) a.entries (keepE w.cells) (some (r, 0)) (fun i x s hx hs => ?_) ?_
      · have hi := (List.getElem?_eq_some_iff.1 hx).1
        obtain ⟨f1, f2⟩ := entry_of h4 (List.mem_of_getElem? hx)
        simp only [dec_lt hx, cond_true, idx_nat, hx, Option.bind_some, reEntry_eq, sCellIndex_ok (GNotebook.mk w.cells) x.cell (lim20 lw), sL28Entry_ok x f1 f2, w_succ hx (lim20 l),
          gd_ok (show s.length + [x].length ≤ 34359738368 by simp only [List.length_singleton]; omega), keepE]
        cases decide (firstAt (fun c => c.id == x.cell) w.cells 0 ≥ 0) <;> rfl
      · simp only [nlt_self, cond_false]; rfl
    · refine filterApp (fun (s : List GEntry) (i : Nat) => (([], 0, 0, [], [], [], 0, 0, 0, w.cells, a.world.clock, a.world.seed, a.world.files, a.tapes, (a.entries, i), a.next, a.limit, a.work, s, (a.entries.length : Int), (i : Int)) :
        (List GCell) × Int × Int × (List GFile) × (List GTape) × (List GEntry) × Int × Int × Int × (List GCell) × Int × Int × (List GFile) × (List GTape) × ((List GEntry × Nat)) × Int × Int × Int × (List GEntry) × Int × Int)) a.entries (keepE w.cells) (some (r, 0)) (fun i x s hx hs => ?_) ?_
      · have hi := (List.getElem?_eq_some_iff.1 hx).1
        simp only [dec_lt hx, cond_true, idx_nat, hx, Option.bind_some, Int.toNat_natCast, if_true, eq_self_iff_true, reEntry_eq, iCellIndex_ok (GNotebook.mk w.cells) x.cell (lim20 lw), w_succ hx (lim20 l),
          gd_ok (show s.length + [x].length ≤ 34359738368 by simp only [List.length_singleton]; omega), keepE]
        cases decide (firstAt (fun c => c.id == x.cell) w.cells 0 ≥ 0) <;> rfl
      · simp only [nlt_self, cond_false]; rfl
/-- two loops over a list that keep the same state, with a bound on how many places are behind -/
theorem loop_both2 {α σ ρ X Y : Type} {f : X → Option (X ⊕ ρ)} {g : Y → Option (Y ⊕ ρ)} (pk : σ → Nat → X) (qk : σ → Nat → Y) (xs : List α) (I : Nat → σ → Prop) (R : ρ → Prop)
    (h1 : ∀ i x s, xs[i]? = some x → I i s → ∃ s', f (pk s i) = some (.inl (pk s' (i + 1))) ∧ g (qk s i) = some (.inl (qk s' (i + 1))) ∧ I (i + 1) s')
    (h2 : ∀ s, I xs.length s → ∃ r, f (pk s xs.length) = some (.inr r) ∧ g (qk s xs.length) = some (.inr r) ∧ R r) (s : σ) (h0 : I 0 s) :
    ∃ r, loopD f (pk s 0) = some r ∧ loopD g (qk s 0) = some r ∧ R r := by
  have key : ∀ (n i : Nat) (s : σ), xs.length = i + n → I i s → ∃ r, loopD f (pk s i) = some r ∧ loopD g (qk s i) = some r ∧ R r := by
    intro n
    induction n with
    | zero =>
      intro i s hi hs
      have : i = xs.length := by omega
      subst this
      obtain ⟨r, e1, e2, hr⟩ := h2 s hs
      exact ⟨r, by rw [loopD_eq, e1], by rw [loopD_eq, e2], hr⟩
    | succ n ih =>
      intro i s hi hs
      have hlt : i < xs.length := by omega
      obtain ⟨s', e1, e2, hs'⟩ := h1 i _ s (List.getElem?_eq_getElem hlt) hs
      obtain ⟨r, q1, q2, hr⟩ := ih (i + 1) s' (by omega) hs'
      exact ⟨r, by rw [loopD_eq, e1]; exact q1, by rw [loopD_eq, e2]; exact q2, hr⟩
  exact key xs.length 0 s (by omega) h0
theorem editEngineAll_eq {T N F : Nat} (a : GEngine) (b : List GEdit) (ha : EngI T N F a) (hb : FitD B20 (.list (.base .edit) b)) : ∃ r, sEditEngineAll a b = some r ∧ iEditEngineAll a b = some r ∧ EngI T N F r.1 := by
  have l := list20 hb
  have hll : b.length < 4611686018427387904 := by omega
  unfold sEditEngineAll iEditEngineAll
  rw [sL28Copy_ok a ha.1, iCopyEngine_ok a ha.1]
  simp only [Option.bind_some]
  refine loop_both2 (σ := GEngine × List Int)
    (fun s i => ((b, [], 0, 0, [], [], [], 0, 0, 0, s.1.notebook.cells, s.1.world.clock, s.1.world.seed, s.1.world.files, s.1.tapes, s.1.entries, s.1.next, s.1.limit, s.1.work, s.2, (i : Int)) :
      (List GEdit) × (List GCell) × Int × Int × (List GFile) × (List GTape) × (List GEntry) × Int × Int × Int × (List GCell) × Int × Int × (List GFile) × (List GTape) × (List GEntry) × Int × Int × Int × (List Int) × Int))
    (fun s i => (([], 0, 0, [], [], [], 0, 0, 0, s.1.notebook.cells, s.1.world.clock, s.1.world.seed, s.1.world.files, s.1.tapes, s.1.entries, s.1.next, s.1.limit, s.1.work, s.2, b, (b.length : Int), (i : Int)) :
      (List GCell) × Int × Int × (List GFile) × (List GTape) × (List GEntry) × Int × Int × Int × (List GCell) × Int × Int × (List GFile) × (List GTape) × (List GEntry) × Int × Int × Int × (List Int) × (List GEdit) × Int × Int))
    b (fun i s => EngI T N F s.1 ∧ s.2.length ≤ i) (fun (r : GEngine × List Int) => EngI T N F r.1) (fun i x s hx hI => ?_) (fun s hI => ?_) (a, []) ⟨ha, Nat.le_refl _⟩
  · have hi := (List.getElem?_eq_some_iff.1 hx).1
    obtain ⟨r, e1, e2, hr⟩ := editEngine_eq s.1 x hI.1 (hb.list_mem x (List.mem_of_getElem? hx))
    have hl := hI.2
    refine ⟨(r.1, s.2 ++ [r.2]), ?_, ?_, hr, by simp; omega⟩
    · simp only [dec_lt hx, cond_true, idx_nat, hx, Option.bind_some, e1, gd_ok (show s.2.length + [r.2].length ≤ 34359738368 by simp only [List.length_singleton]; omega), w_succ hx hll]
    · simp only [dec_lt hx, cond_true, idx_nat, hx, Option.bind_some, e2, gd_ok (show s.2.length + [r.2].length ≤ 34359738368 by simp only [List.length_singleton]; omega), w_succ hx hll]
  · simp only [Int.lt_irrefl, decide_false, cond_false]
    exact ⟨_, rfl, rfl, hI.1⟩
theorem batchEngine_eq {T N F : Nat} (a : GEngine) (b : List GEdit) (ha : EngI T N F a) (hb : FitD B20 (.list (.base .edit) b)) : ∃ r, sBatchEngine a b = some r ∧ iBatchEngine a b = some r ∧ EngI T N F r.1 := by
  have fa := ha.1; rw [fit_engine] at fa
  obtain ⟨⟨w, n⟩, e1, e2, _⟩ := applyBatch_eq a.notebook b fa.1 hb
  obtain ⟨r, q1, q2, hr⟩ := editEngineAll_eq a b ha hb
  unfold sBatchEngine iBatchEngine
  simp only [e1, e2, Option.bind_some, sL28Copy_ok a ha.1, iCopyEngine_ok a ha.1, q1, q2]
  cases decide (n ≥ 0) with
  | true => exact ⟨_, rfl, rfl, ha⟩
  | false => exact ⟨_, rfl, rfl, hr⟩
theorem law_FnExactBatchEngine (a : GEngine) (b : List GEdit) (ha : Fit B47 (.base .engine) a) (hb : FitD B47 (.list (.base .edit) b)) : FnExactBatchEngine a b = some true := by
  refine law1c (szEngine_ok a ha) _ (by omega) (by omega) fun pa r1 h0 h1 hc => ?_
  refine law1 (szEditS_ok b hb) _ (by omega) (by omega) fun pb r2 h2 h3 => ?_
  obtain ⟨⟨w, n⟩, hs, hi, hw, hT, hN, hF⟩ := batchEngine_eq a b ⟨pa, Nat.le_refl _, Nat.le_refl _, Nat.le_refl _⟩ pb
  have oa := okEngineF (pa.mono le24)
  have ow := okEngineF (hw.mono le24)
  obtain ⟨ob, nb⟩ := okEditS24 (pb.mono le24)
  rw [cntEngineE_eq] at hc
  have fa := pa; rw [fit_engine] at fa
  have fw := hw; rw [fit_engine] at fw
  obtain ⟨_, n1⟩ := okNotebook24 (fa.1.mono le24)
  obtain ⟨_, n2⟩ := okNotebook24 (fw.1.mono le24)
  have na : (cntEngine a : Int) ≤ 200000000 := by
    unfold cntEngine
    unfold cntWorldE at hc
    unfold cntWorld
    omega
  have nw : (cntEngine w : Int) ≤ 300000000 := by
    unfold cntEngine
    unfold cntWorldE at hc
    unfold cntWorld
    simp only at hT hN hF
    have n2' : cntNotebook w.notebook ≤ _ := n2
    omega
  obtain ⟨y1, e1, _⟩ := markEngine_ok a oa 1 (by omega) (by omega)
  obtain ⟨y2, e2, _⟩ := markEditS_ok b ob (1 + (cntEngine a : Nat)) (by omega) (by omega)
  obtain ⟨y3, e3, e4, e5, e6, e7, e8, e9⟩ := markEngine_ok w ow 1 (by omega) (by omega)
  have e10 : GEngine.mk y3.notebook (GWorld.mk w.world.clock w.world.seed y3.world.files) y3.tapes y3.entries w.next w.limit w.work = y3 := by rw [← e5, ← e6, ← e7, ← e8, ← e9]
  simp only [toEngine_ok a pa, toEditS_ok b pb, hs, hi, eqEngine_ok a pa, eqEngine_ok w hw, eqEditS_ok b pb, e1, e2, e3, e4, e10, Option.bind_some, Bool.not_true, cond_false,
    decide_eq_false (show ¬ (1 + (cntEngine a : Nat) + (cntEditS b : Nat) : Int) < 0 by omega), decide_eq_false (show ¬ (1 + (cntEngine w : Nat) : Int) < 0 by omega), bne_self_i]
end Go.Proofs.YtopcobafmnpmkaaGreat
