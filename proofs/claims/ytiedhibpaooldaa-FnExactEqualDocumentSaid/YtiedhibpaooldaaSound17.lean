/- Regions whose order is open. -/
import Derived.Test.YtiedhibpaooldaaSound16
namespace Go.Abs
open Go.RowKit

theorem masks_spec {ops : Array Oper} {i k : Nat} (h : ((masks [] ops.toList).getD i 0).testBit k = true) :
    ∃ o e, ops[i]? = some o ∧ e ∈ o.after.toList ∧ Region.binds .any e = true ∧ (k = e.on ∨ (e.on < i ∧ ((masks [] ops.toList).getD e.on 0).testBit k = true)) := by
  cases ho : ops.toList[i]? with
  | none =>
    exfalso
    have hlen : (masks [] ops.toList).length = ops.toList.length := by
      have key : ∀ (l : List Oper) (acc : List Nat), (masks acc l).length = acc.length + l.length := by
        intro l
        induction l with
        | nil => intro acc; rfl
        | cons o r ih => intro acc; show (masks (acc ++ [maskOf acc o]) r).length = _; rw [ih]; simp; omega
      have := key ops.toList []
      simpa using this
    have hi : ops.toList.length ≤ i := by simpa using ho
    rw [List.getD_eq_getElem?_getD, List.getElem?_eq_none (by omega)] at h
    simp at h
  | some o =>
    obtain ⟨acc', a1, a2, a3⟩ := (masks_get ops.toList [] i).2 o ho
    simp only [List.length_nil, Nat.zero_add] at a2 a3
    rw [List.getD_eq_getElem?_getD, a3] at h
    obtain ⟨e, he, hb, hk⟩ := mask_bit h
    refine ⟨o, e, by simpa using ho, he, hb, hk.imp id fun hk => ?_⟩
    by_cases hlt : e.on < i
    · refine ⟨hlt, ?_⟩
      rw [List.getD_eq_getElem?_getD, a1 _ (by omega), ← List.getD_eq_getElem?_getD]
      exact hk
    · rw [List.getD_eq_getElem?_getD, List.getElem?_eq_none (by omega)] at hk
      simp at hk

/-- whom a listed operation waits for is listed -/
def Closed (ops : Array Oper) (listed : Array Bool) : Prop := ∀ i o e, listed.getD i false = true → ops[i]? = some o → e ∈ o.after.toList → Region.binds .any e = true → listed.getD e.on false = true
theorem closed_mask {ops : Array Oper} {listed : Array Bool} (hc : Closed ops listed) : ∀ (n i k : Nat), i < n → (∀ o e, ops[i]? = some o → e ∈ o.after.toList → Region.binds .any e = true → listed.getD e.on false = true) →
    ((masks [] ops.toList).getD i 0).testBit k = true → listed.getD k false = true
  | 0, i, k, hn, _, _ => by omega
  | n + 1, i, k, hn, hi, hb => by
    obtain ⟨o, e, ho, he, hbd, hk⟩ := masks_spec hb
    have hl := hi o e ho he hbd
    rcases hk with rfl | ⟨hlt, hk⟩
    · exact hl
    · exact closed_mask hc n e.on k (by omega) (fun o' e' ho' he' hb' => hc e.on o' e' hl ho' he' hb') hk

theorem allFree_pairwise {bf : List Nat} : ∀ {g : List Lg}, allFree bf g = true → g.Pairwise fun a b => (bf.getD a.i 0).testBit b.i = true ∨ b.free a = true
  | [], _ => .nil
  | a :: r, h => by
    simp only [allFree, Bool.and_eq_true, List.all_eq_true, Bool.or_eq_true] at h
    exact .cons (fun b hb => h.1 b hb) (allFree_pairwise h.2)

theorem Run.idx {E : Env} {ops : Array Oper} {l : List (Oper × Nat)} {S S' : St} {g : List Lg} (h : Run E ops l S g S') : g.map Lg.i = l.map (·.2) := by
  induction h with
  | nil S => rfl
  | cons o i r S S' ws rs g h hr ih => simp [ih]

section regions
variable {P : Program} {w0 : Bs} {E : Env} {ops : Array Oper} {Q : Exit → Act → World → Prop}

theorem any_sound (hE : EnvOk P E) {S' : St} (hQ : ∀ a' w' G', Inv w0 G' S' a' w' → Q .normal a' w') (hback : ∀ i o e, ops[i]? = some o → e ∈ o.after.toList → Region.binds .any e = true → e.on < i) :
    ∀ (fuel : Nat) {listed : Array Bool} {l : List (Oper × Nat)} {S : St} {g : List Lg} {a : Act} {w : World} {G : Gh}, listed.size = ops.size → Closed ops listed →
      (∀ o i, (o, i) ∈ l → ops[i]? = some o ∧ listed.getD i true = false) → (∀ o i, ops[i]? = some o → listed.getD i true = false → (o, i) ∈ l) → l.Pairwise (fun x y => x.2 < y.2) →
      Run E ops l S g S' → g.Pairwise (fun b a => ((masks [] ops.toList).getD a.i 0).testBit b.i = true ∨ b.free a = true) → Inv w0 G S a w → l.length ≤ fuel → wpAny P .any ops Q fuel listed a w
  | 0, listed, l, S, g, a, w, G, _, _, _, hb, _, hr, _, h, hf => by
    have hl : l = [] := List.eq_nil_of_length_eq_zero (by omega)
    subst hl
    cases hr
    refine ⟨?_, hQ _ _ _ h⟩
    rw [List.eq_nil_iff_forall_not_mem]
    intro j hj
    obtain ⟨h0, o, ho, _⟩ := mem_ready.1 hj
    exact absurd (hb o j ho h0) (by simp)
  | fuel + 1, listed, l, S, g, a, w, G, hsz, hcl, ha, hb, hp, hr, hg, h, hf => by
    refine ⟨fun hnil => ?_, fun i hi => ?_⟩
    · cases l with
      | nil => cases hr; exact hQ _ _ _ h
      | cons x r =>
        obtain ⟨o, i⟩ := x
        exfalso
        obtain ⟨ho, hun⟩ := ha o i List.mem_cons_self
        have hm : i ∈ Region.ready .any ops listed := by
          refine mem_ready.2 ⟨hun, o, ho, fun e he hbd => ?_⟩
          have hlt := hback i o e ho (by simpa using he) hbd
          have hil : i < ops.size := (Array.getElem?_eq_some_iff.1 ho).1
          cases hx : listed.getD e.on false with
          | true => rfl
          | false =>
            have hx' : listed.getD e.on true = false := by
              have : e.on < listed.size := by omega
              simp [this] at hx ⊢; exact hx
            have hmem := hb ops[e.on] e.on (by simp) hx'
            rcases List.mem_cons.1 hmem with he' | he'
            · have := congrArg Prod.snd he'; simp at this; omega
            · have := (List.pairwise_cons.1 hp).1 _ he'; simp at this; omega
        rw [hnil] at hm; cases hm
    · obtain ⟨hun, o, ho, hall⟩ := mem_ready.1 hi
      have hmem := hb o i ho hun
      obtain ⟨pre, post, rfl⟩ := List.append_of_mem hmem
      have hidx := hr.idx
      obtain ⟨ws, rs, gpre, gpost, rfl, hgl, hv, hr'⟩ := hr.front fun gpre gi gpost hge hgl b hbm => by
        subst hge
        have hgi : gi.i = i := by
          have := congrArg (fun l => l[pre.length]?) hidx
          simp [← hgl] at this
          simpa [hgl] using this
        have hbi : b.i ∈ pre.map (·.2) := by
          have e1 : (gpre.map Lg.i) = pre.map (·.2) := by
            have := congrArg (List.take pre.length) hidx
            simp only [List.map_append, List.map_cons] at this
            rw [List.take_left' (by simp [hgl]), List.take_left' (by simp)] at this
            exact this
          rw [← e1]; exact List.mem_map_of_mem hbm
        rw [List.pairwise_append] at hg
        have := hg.2.2 b hbm gi List.mem_cons_self
        rcases this with hbit | hfr
        · exfalso
          rw [hgi] at hbit
          have hlst := closed_mask hcl (i + 1) i b.i (by omega) (fun o' e' ho' he' hb' => by
            rw [ho] at ho'; cases ho'
            exact hall e' (by simpa using he') hb') hbit
          obtain ⟨⟨o2, i2⟩, hm2, he2⟩ := List.mem_map.1 hbi
          have := (ha o2 i2 (by simp [hm2])).2
          simp only at he2
          rw [← he2] at hlst
          have hi2 : i2 < listed.size := by
            have := (ha o2 i2 (by simp [hm2])).1
            have := (Array.getElem?_eq_some_iff.1 this).1
            omega
          simp [hi2] at hlst this
          rw [hlst] at this; cases this
        · exact hfr
      refine step_sound hE h ho (Rd.valL_val hv) fun a' w' G' h' => ?_
      have hil : i < ops.size := (Array.getElem?_eq_some_iff.1 ho).1
      rw [List.pairwise_append] at hp hg
      refine any_sound hE hQ hback fuel (l := pre ++ post) (by simp [hsz]) ?_ ?_ ?_ ?_ hr' ?_ h' (by simp at hf ⊢; omega)
      · intro i' o' e' hi' ho' he' hbd
        by_cases hii : i = i'
        · subst hii
          rw [ho] at ho'; cases ho'
          exact getD_set_true (hall e' (by simpa using he') hbd)
        · rw [getD_set_ne false hii] at hi'
          exact getD_set_true (hcl i' o' e' hi' ho' he' hbd)
      · intro o' i' hm'
        have hne : i ≠ i' := by
          rcases List.mem_append.1 hm' with hm' | hm'
          · have := hp.2.2 _ hm' _ List.mem_cons_self; simp at this; omega
          · have := (List.pairwise_cons.1 hp.2.1).1 _ hm'; simp at this; omega
        have := ha o' i' (by rcases List.mem_append.1 hm' with hm' | hm' <;> simp [hm'])
        exact ⟨this.1, by rw [getD_set_ne true hne]; exact this.2⟩
      · intro o' i' ho' hun'
        have hne : i ≠ i' := by
          rintro rfl
          have : i < listed.size := by omega
          simp [this] at hun'
        rw [getD_set_ne true hne] at hun'
        have := hb o' i' ho' hun'
        rcases List.mem_append.1 this with hm' | hm'
        · exact List.mem_append_left _ hm'
        · rcases List.mem_cons.1 hm' with he' | hm'
          · have := congrArg Prod.snd he'; simp at this; exact absurd this.symm hne
          · exact List.mem_append_right _ hm'
      · rw [List.pairwise_append]
        exact ⟨hp.1, (List.pairwise_cons.1 hp.2.1).2, fun x hx y hy => hp.2.2 x hx y (List.mem_cons_of_mem _ hy)⟩
      · rw [List.pairwise_append]
        exact ⟨hg.1, (List.pairwise_cons.1 hg.2.1).2, fun x hx y hy => hg.2.2 x hx y (List.mem_cons_of_mem _ hy)⟩

theorem draw_sound {ρ : Type} (hE : EnvOk P E) (hm : P.follows .mixedOrders = true) {id : Nat} {k : St → Option ρ} {r : ρ} {G : Gh} {S : St} {a : Act} {w : World}
    (hv : opsL E ops ops.toList.zipIdx S [] (fun S g => if edgesBack ops.toList.zipIdx && allFree (masks [] ops.toList) g then k S else none) = some r) (h : Inv w0 G S a w)
    (hQ : ∀ S' a' w' G', k S' = some r → Inv w0 G' S' a' w' → Q .normal a' w') : (Code.region id ops true).wp P Q a w := by
  obtain ⟨g, S', hr, hk⟩ := opsL_run hv
  simp only [List.append_nil] at hk
  split at hk
  case isFalse => cases hk
  rename_i hc
  rw [Bool.and_eq_true] at hc
  have hzip : ∀ o i, (o, i) ∈ ops.toList.zipIdx ↔ ops[i]? = some o := by
    intro o i
    rw [List.mem_zipIdx_iff_getElem?]
    simp
  refine wp_region_any hm ?_
  have hfr := allFree_pairwise hc.2
  rw [List.pairwise_reverse] at hfr
  refine any_sound hE (S' := S') (fun a' w' G' h' => hQ S' a' w' G' hk h') (fun i o e ho he hb => ?_) ops.size (l := ops.toList.zipIdx) (by simp) ?_ (fun o i hm' => ⟨(hzip o i).1 hm', ?_⟩) (fun o i ho _ => (hzip o i).2 ho) ?_ hr hfr (h.grow ((Below.refl _ _).drew)) (by simp)
  · have := List.all_eq_true.1 hc.1 _ ((hzip o i).2 ho)
    simp only [List.all_eq_true, Bool.or_eq_true, Bool.not_eq_true', decide_eq_true_eq] at this
    rcases this e he with h1 | h1
    · rw [hb] at h1; cases h1
    · exact h1
  · intro i o e hi
    by_cases hl : i < ops.size
    · simp [hl] at hi
    · simp [hl] at hi
  · have := (Array.getElem?_eq_some_iff.1 ((hzip o i).1 hm')).1
    simp [this]
  · have key : ∀ (l : List Oper) (n : Nat), (l.zipIdx n).Pairwise (fun x y => x.2 < y.2) ∧ ∀ x ∈ l.zipIdx n, n ≤ x.2 := by
      intro l
      induction l with
      | nil => intro n; exact ⟨.nil, fun x hx => by cases hx⟩
      | cons o l ih =>
        intro n
        obtain ⟨h1, h2⟩ := ih (n + 1)
        refine ⟨.cons (fun y hy => ?_) h1, fun x hx => ?_⟩
        · have := h2 y hy; simp; omega
        · rcases List.mem_cons.1 hx with rfl | hx
          · exact Nat.le_refl _
          · have := h2 x hx; omega
    exact (key _ 0).1
end regions
end Go.Abs
