/- Plain laws: a net of replicas; FnMergedOps. -/
import Derived.Test.YtjpmhfhcbehgcaaGreatOps2
import Derived.Test.YtjpmhfhcbehgcaaGreatMerge2
set_option linter.unusedSimpArgs false
set_option linter.unusedVariables false
namespace Go.Proofs.YtjpmhfhcbehgcaaGreat
open Go.Abs Go.Proofs

/-- a valid log -/
structure LogP (l : List GOp) : Prop where
  op : ∀ x, x ∈ l → opB x = true
  sorted : l.Pairwise (fun a b => ltOp a b = true)
  len : (l.length : Int) ≤ 60
theorem pairwise_adj {α : Type} {R : α → α → Prop} (tr : ∀ x y z, R x y → R y z → R x z) : ∀ l : List α, (∀ (k : Nat) (x y : α), l[k]? = some x → l[k + 1]? = some y → R x y) → l.Pairwise R
  | [], _ => .nil
  | [x], _ => List.pairwise_singleton _ _
  | x :: y :: r, h => by
    have ih := pairwise_adj tr (y :: r) fun k a b ha hb => h (k + 1) a b (by simpa using ha) (by simpa using hb)
    have hxy := h 0 x y rfl rfl
    refine List.pairwise_cons.2 ⟨fun z hz => ?_, ih⟩
    rcases List.mem_cons.1 hz with rfl | hz
    · exact hxy
    · exact tr _ _ _ hxy ((List.pairwise_cons.1 ih).1 z hz)
theorem logP_iff (l : List GOp) : (allAt (logAt l) l 0 && decide ((l.length : Int) ≤ 60)) = true ↔ LogP l := by
  rw [Bool.and_eq_true, decide_eq_true_eq]
  constructor
  · rintro ⟨h, hl⟩
    have hat := fun k x hx => allAt_get h k x hx
    have hop : ∀ (k : Nat) (x : GOp), l[k]? = some x → opB x = true := fun k x hx => by
      have := hat k x hx
      unfold logAt at this
      rw [Bool.and_eq_true] at this
      exact this.1
    refine ⟨fun x hx => ?_, pairwise_adj (R := fun a b => ltOp a b = true) (fun x y z h h' => swo_ltOp.trans _ _ _ h h') l fun k x y hx hy => ?_, hl⟩
    · obtain ⟨k, hk⟩ := List.getElem?_of_mem hx
      exact hop k x hk
    · have := hat (k + 1) y hy
      rw [Nat.zero_add] at this
      unfold logAt at this
      rw [Bool.and_eq_true, Nat.add_sub_cancel, hx, decide_eq_true (show ((k + 1 : Nat) : Int) > 0 by omega)] at this
      exact this.2
  · rintro ⟨hop, hs, hl⟩
    refine ⟨allAt_of fun k x hx => ?_, hl⟩
    unfold logAt
    rw [Bool.and_eq_true]
    refine ⟨hop x (List.mem_of_getElem? hx), ?_⟩
    by_cases h0 : (k : Int) > 0
    · have hk := (List.getElem?_eq_some_iff.1 hx).1
      have hy : l[k - 1]? = some (l[k - 1]'(by omega)) := List.getElem?_eq_getElem (by omega)
      rw [decide_eq_true h0, hy]
      have := List.pairwise_iff_getElem.1 hs (k - 1) k (by omega) hk (by omega)
      obtain ⟨_, e⟩ := List.getElem?_eq_some_iff.1 hx
      rw [e] at this
      exact this
    · rw [decide_eq_false h0]; rfl
theorem logFit {l : List GOp} (h : LogP l) (hf : ∀ x, x ∈ l → OpF x) : FitD B20 (.list (.base .op) l) := mkList20 (by have := h.len; omega) hf
theorem validLog_P (l : List GOp) (h : FitD B20 (.list (.base .op) l)) : ∃ v, sIsValidLog l = some v ∧ iIsValidLog l = some v ∧ (v = true ↔ LogP l) := by
  obtain ⟨e1, e2⟩ := validLog_eq3 l h
  exact ⟨_, e1, e2, logP_iff l⟩
theorem validReplica_P (a : GReplica) (h : Fit B20 (.base .replica) a) : ∃ v, sIsValidReplica a = some v ∧ (v = true → LogP a.ops) := by
  rw [fit_replica] at h
  obtain ⟨v, e1, e2, e3⟩ := validLog_P a.ops h.2
  unfold sIsValidReplica
  simp only [sL1In_ok, Option.bind_some, e1]
  cases (decide (0 ≤ a.id) && decide (a.id ≤ 2))
  · exact ⟨_, rfl, fun h => by cases h⟩
  · exact ⟨_, rfl, e3.1⟩
theorem addOp_net (a : GReplica) (b : GOp) (ha : Fit B20 (.base .replica) a) (hb : Fit B20 (.base .op) b) :
    ∃ w ok, sAddOp a b = some (w, ok) ∧ (w = a ∨ ∃ x, w = GReplica.mk a.id (a.ops ++ [x]) ∧ x.by_ = a.id ∧ OpF x ∧ LogP (a.ops ++ [x])) := by
  have fa := ha; rw [fit_replica] at fa
  have fb := hb; rw [fit_op] at fb
  obtain ⟨b0, b1, b2, b3, b4, b5, b6, b7, b8, b9⟩ := fb
  have hl := list20 fa.2
  have hll := lim20 hl
  obtain ⟨t, t1⟩ : ∃ t, sLastTime a.ops = some t := ⟨_, sLastTime_val a.ops hll⟩
  obtain ⟨w, s1, s3, s4⟩ := sSeenBy_val a hll
  obtain ⟨v, v1, v2⟩ := validReplica_P a ha
  have g1 : ∀ x : GOp, gd (a.ops.length + [x].length) = some () := fun x => gd_ok (by simp; omega)
  unfold sAddOp
  rw [sL41Copy_ok b hb, t1, s1, sL43Copy_ok a ha, v1]
  simp only [Option.bind_some, g1]
  cases v with
  | false => exact ⟨a, false, rfl, .inl rfl⟩
  | true =>
    have h60 := (v2 rfl).len
    have fx : Fit B20 (.base .op) (GOp.mk (w64 (t + 1)) a.id b.kind w b.edit b.src b.dst b.cell b.version b.reads) := by
      rw [fit_op]
      refine ⟨int0 (w64_wf _), fa.1, b2, mkList20 (show (w.length : Int) ≤ 1048576 by omega) fun x hx d hd => ?_, b4, b5, b6, b7, b8, b9⟩
      have e : d = .int .i64 x := by simpa [Ty.cells, Base.cells] using hd
      subst e
      rcases s4 x hx with rfl | ⟨n, rfl⟩
      · exact int0 (wf_small (by omega) (by omega))
      · exact int0 (w64_wf n)
    have fn : Fit B20 (.base .replica) (GReplica.mk a.id (a.ops ++ [GOp.mk (w64 (t + 1)) a.id b.kind w b.edit b.src b.dst b.cell b.version b.reads])) := by
      rw [fit_replica]
      refine ⟨fa.1, mkList20 (by simp; omega) fun x hx => ?_⟩
      rcases List.mem_append.1 hx with hx | hx
      · exact fa.2.list_mem x hx
      · simp only [List.mem_singleton] at hx; subst hx; exact fx
    obtain ⟨u, u1, u2⟩ := validReplica_P _ fn
    simp only [Bool.not_true, cond_false, u1, Option.bind_some]
    cases u with
    | false => exact ⟨a, false, rfl, .inl rfl⟩
    | true => exact ⟨_, true, rfl, .inr ⟨_, rfl, rfl, fx, u2 rfl⟩⟩
theorem pull_net (a b : GReplica) (ha : Fit B20 (.base .replica) a) (hb : Fit B20 (.base .replica) b) :
    ∃ w ok, sPull a b = some (w, ok) ∧ (w = a ∨ w = GReplica.mk a.id (mergeL a.ops b.ops) ∧ LogP (mergeL a.ops b.ops)) := by
  have fa := ha; rw [fit_replica] at fa
  have fb := hb; rw [fit_replica] at fb
  have la := list20 fa.2
  have lb := list20 fb.2
  have hs := sMergeOps_eq a.ops b.ops (by omega) (by omega) (fun x hx => fa.2.list_mem x hx) (fun x hx => fb.2.list_mem x hx)
  have hlen := mergeL_len a.ops b.ops
  obtain ⟨v, v1, v2⟩ := validReplica_P a ha
  obtain ⟨u, u1, u2⟩ := validReplica_P b hb
  unfold sPull
  rw [hs]
  simp only [Option.bind_some, v1, u1, sL43Copy_ok a ha]
  cases v with
  | false => exact ⟨a, false, rfl, .inl rfl⟩
  | true =>
    cases u with
    | false => exact ⟨a, false, rfl, .inl rfl⟩
    | true =>
      have h1 := (v2 rfl).len
      have h2 := (u2 rfl).len
      have fn : Fit B20 (.base .replica) (GReplica.mk a.id (mergeL a.ops b.ops)) := by
        rw [fit_replica]
        refine ⟨fa.1, mkList20 (by show ((mergeL a.ops b.ops).length : Int) ≤ 1048576; omega) fun x hx => ?_⟩
        rcases mergeL_mem hx with h | h
        · exact fa.2.list_mem x h
        · exact fb.2.list_mem x h
      obtain ⟨z, z1, z2⟩ := validReplica_P _ fn
      simp only [Bool.not_true, cond_false, z1, Option.bind_some]
      cases z with
      | false => exact ⟨a, false, rfl, .inl rfl⟩
      | true => exact ⟨_, true, rfl, .inr ⟨rfl, z2 rfl⟩⟩

/-! all operations that were ever made: no two have one key -/
def KeyU (U : List GOp) : Prop := ∀ x, x ∈ U → ∀ y, y ∈ U → keyOp x y = true → x = y
theorem keyOp_lt {x y : GOp} (h : ltOp x y = true) : keyOp x y = false ∧ keyOp y x = false := by
  simp only [ltOp, keyOp, Bool.or_eq_true, Bool.and_eq_true, Bool.and_eq_false_iff, decide_eq_true_eq, beq_iff_eq, beq_eq_false_iff_ne] at *
  omega
theorem keyU_sorted : ∀ {l : List GOp}, l.Pairwise (fun a b => ltOp a b = true) → KeyU l
  | [], _ => fun x hx => by cases hx
  | a :: r, h => by
    have h' := List.pairwise_cons.1 h
    intro x hx y hy hk
    rcases List.mem_cons.1 hx with e | hx'
    · rcases List.mem_cons.1 hy with e' | hy'
      · rw [e, e']
      · rw [e, (keyOp_lt (h'.1 y hy')).1] at hk; cases hk
    · rcases List.mem_cons.1 hy with e' | hy'
      · rw [e', (keyOp_lt (h'.1 x hx')).2] at hk; cases hk
      · exact keyU_sorted h'.2 x hx' y hy' hk
theorem sorted_ext : ∀ {s t : List GOp}, s.Pairwise (fun a b => ltOp a b = true) → t.Pairwise (fun a b => ltOp a b = true) → (∀ x, x ∈ s ↔ x ∈ t) → s = t
  | [], [], _, _, _ => rfl
  | [], y :: t, _, _, h => absurd ((h y).2 (by simp)) (by simp)
  | x :: s, [], _, _, h => absurd ((h x).1 (by simp)) (by simp)
  | x :: s, y :: t, hs, ht, h => by
    have hs' := List.pairwise_cons.1 hs
    have ht' := List.pairwise_cons.1 ht
    have e : x = y := by
      rcases List.mem_cons.1 ((h x).1 (by simp)) with e | hx
      · exact e
      rcases List.mem_cons.1 ((h y).2 (by simp)) with e | hy
      · exact e.symm
      exact (ltOp_anti _ _ (hs'.1 y hy) (ht'.1 x hx)).elim
    subst e
    have irr : ∀ z, ltOp x z = true → z ≠ x := fun z hz e => by
      rw [e, swo_ltOp.irrefl] at hz; cases hz
    rw [sorted_ext hs'.2 ht'.2 fun z => ⟨fun hz => ?_, fun hz => ?_⟩]
    · rcases List.mem_cons.1 ((h z).1 (by simp [hz])) with e | hz'
      · exact absurd e (irr z (hs'.1 z hz))
      · exact hz'
    · rcases List.mem_cons.1 ((h z).2 (by simp [hz])) with e | hz'
      · exact absurd e (irr z (ht'.1 z hz))
      · exact hz'
theorem insI_mem {U : List GOp} (hU : KeyU U) : ∀ (l t : List GOp), (∀ x, x ∈ l → x ∈ U) → (∀ x, x ∈ t → x ∈ U) → ∀ x, x ∈ t ∨ x ∈ l → x ∈ l.foldl insI t
  | [], t, _, _, x, h => by
    rcases h with h | h
    · exact h
    · cases h
  | y :: l, t, hl, ht, x, h => by
    simp only [List.foldl_cons]
    refine insI_mem hU l (insI t y) (fun z hz => hl z (by simp [hz])) (fun z hz => ?_) x ?_
    · unfold insI at hz
      cases hk : t.any (keyOp · y) with
      | true => rw [hk] at hz; exact ht z hz
      | false =>
        rw [hk] at hz
        rcases List.mem_append.1 hz with hz | hz
        · exact ht z hz
        · rw [List.mem_singleton.1 hz]; exact hl y (by simp)
    · unfold insI
      cases hk : t.any (keyOp · y) with
      | true =>
        obtain ⟨z, hz, hzk⟩ := List.any_eq_true.1 hk
        have e := hU z (ht z hz) y (hl y (by simp)) hzk
        rcases h with h | h
        · exact .inl h
        · rcases List.mem_cons.1 h with rfl | h
          · left; show x ∈ t; rw [← e]; exact hz
          · exact .inr h
      | false =>
        rcases h with h | h
        · exact .inl (List.mem_append_left _ h)
        · rcases List.mem_cons.1 h with rfl | h
          · left; show x ∈ t ++ [x]; simp
          · exact .inr h
theorem mergeL_iff {U : List GOp} (hU : KeyU U) {a b : List GOp} (ha : ∀ x, x ∈ a → x ∈ U) (hb : ∀ x, x ∈ b → x ∈ U) (x : GOp) : x ∈ mergeL a b ↔ x ∈ a ∨ x ∈ b := by
  refine ⟨mergeL_mem, fun h => (mergeL_perm a b).mem_iff.2 (insI_mem hU (a ++ b) [] (fun z hz => ?_) (fun z hz => by cases hz) x (.inr (List.mem_append.2 h)))⟩
  rcases List.mem_append.1 hz with hz | hz
  · exact ha z hz
  · exact hb z hz
theorem sorted_nodup {l : List GOp} (h : l.Pairwise (fun a b => ltOp a b = true)) : l.Nodup := h.imp fun h e => by
  rw [e, swo_ltOp.irrefl] at h; cases h
theorem sub_len {α : Type} : ∀ {l U : List α}, l.Nodup → (∀ x, x ∈ l → x ∈ U) → l.length ≤ U.length
  | [], U, _, _ => Nat.zero_le _
  | x :: r, U, hn, hs => by
    have hn' := List.nodup_cons.1 hn
    obtain ⟨s, t, e⟩ := List.append_of_mem (hs x (by simp))
    subst e
    have := sub_len (l := r) (U := s ++ t) hn'.2 fun z hz => by
      have h := hs z (by simp [hz])
      rw [List.mem_append, List.mem_cons] at h
      rcases h with h | rfl | h
      · exact List.mem_append_left _ h
      · exact absurd hz hn'.1
      · exact List.mem_append_right _ h
    simp only [List.length_append, List.length_cons] at this ⊢
    omega

/-! the net -/
structure NetI (U : List GOp) (rs : List GReplica) (i : Nat) : Prop where
  n : rs.length = 3
  id : ∀ (k : Nat) r, rs[k]? = some r → r.id = (k : Int)
  log : ∀ (k : Nat) r, rs[k]? = some r → LogP r.ops
  sub : ∀ (k : Nat) r, rs[k]? = some r → ∀ x, x ∈ r.ops → x ∈ U
  own : ∀ x, x ∈ U → ∀ (k : Nat) r, rs[k]? = some r → x.by_ = (k : Int) → x ∈ r.ops
  key : KeyU U
  fit : ∀ x, x ∈ U → OpF x
  len : U.length ≤ i
theorem set_self {α : Type} {l : List α} {k : Nat} {x : α} (h : l[k]? = some x) : l.set k x = l := by
  obtain ⟨hk, rfl⟩ := List.getElem?_eq_some_iff.1 h
  exact List.set_getElem_self hk
theorem NetI.keep {U : List GOp} {rs : List GReplica} {i k : Nat} {r : GReplica} (h : NetI U rs i) (hr : rs[k]? = some r) : NetI U (rs.set k r) (i + 1) := by
  rw [set_self hr]
  exact { h with len := Nat.le_succ_of_le h.len }
theorem setGet {α : Type} {l : List α} {k j : Nat} {x y z : α} (hx : l[k]? = some x) (h : (l.set k z)[j]? = some y) : (j = k ∧ y = z) ∨ (j ≠ k ∧ l[j]? = some y) := by
  have hk := (List.getElem?_eq_some_iff.1 hx).1
  rw [List.getElem?_set] at h
  by_cases e : k = j
  · subst e
    rw [if_pos rfl, if_pos hk] at h
    exact .inl ⟨rfl, (Option.some.inj h).symm⟩
  · rw [if_neg e] at h
    exact .inr ⟨fun e' => e e'.symm, h⟩
theorem NetI.pull {U : List GOp} {rs : List GReplica} {i k j : Nat} {r q : GReplica} (h : NetI U rs i) (hr : rs[k]? = some r) (hq : rs[j]? = some q) (hl : LogP (mergeL r.ops q.ops)) : NetI U (rs.set k (GReplica.mk r.id (mergeL r.ops q.ops))) (i + 1) where
  n := by rw [List.length_set]; exact h.n
  id := fun m y hy => by
    rcases setGet hr hy with ⟨rfl, rfl⟩ | ⟨_, hy⟩
    · exact h.id _ r hr
    · exact h.id m y hy
  log := fun m y hy => by
    rcases setGet hr hy with ⟨rfl, rfl⟩ | ⟨_, hy⟩
    · exact hl
    · exact h.log m y hy
  sub := fun m y hy x hx => by
    rcases setGet hr hy with ⟨rfl, rfl⟩ | ⟨_, hy⟩
    · rcases mergeL_mem hx with hx | hx
      · exact h.sub _ r hr x hx
      · exact h.sub _ q hq x hx
    · exact h.sub m y hy x hx
  own := fun x hx m y hy hb => by
    rcases setGet hr hy with ⟨rfl, rfl⟩ | ⟨_, hy⟩
    · exact (mergeL_iff h.key (h.sub _ r hr) (h.sub _ q hq) x).2 (.inl (h.own x hx _ r hr hb))
    · exact h.own x hx m y hy hb
  key := h.key
  fit := h.fit
  len := Nat.le_succ_of_le h.len
theorem NetI.add {U : List GOp} {rs : List GReplica} {i k : Nat} {r : GReplica} {x : GOp} (h : NetI U rs i) (hr : rs[k]? = some r) (hb : x.by_ = r.id) (hf : OpF x) (hl : LogP (r.ops ++ [x])) : NetI (x :: U) (rs.set k (GReplica.mk r.id (r.ops ++ [x]))) (i + 1) where
  n := by rw [List.length_set]; exact h.n
  id := fun m y hy => by
    rcases setGet hr hy with ⟨rfl, rfl⟩ | ⟨_, hy⟩
    · exact h.id _ r hr
    · exact h.id m y hy
  log := fun m y hy => by
    rcases setGet hr hy with ⟨rfl, rfl⟩ | ⟨_, hy⟩
    · exact hl
    · exact h.log m y hy
  sub := fun m y hy z hz => by
    rcases setGet hr hy with ⟨rfl, rfl⟩ | ⟨_, hy⟩
    · rcases List.mem_append.1 hz with hz | hz
      · exact List.mem_cons_of_mem _ (h.sub _ r hr z hz)
      · rw [List.mem_singleton.1 hz]; exact List.mem_cons_self
    · exact List.mem_cons_of_mem _ (h.sub m y hy z hz)
  own := fun z hz m y hy hby => by
    rcases List.mem_cons.1 hz with rfl | hz
    · rcases setGet hr hy with ⟨rfl, rfl⟩ | ⟨hne, hy⟩
      · show z ∈ r.ops ++ [z]; simp
      · have e := h.id k r hr
        rw [hb, e] at hby
        exact absurd (Int.ofNat.inj hby).symm hne
    · rcases setGet hr hy with ⟨rfl, rfl⟩ | ⟨_, hy⟩
      · exact List.mem_append_left _ (h.own z hz _ r hr hby)
      · exact h.own z hz m y hy hby
  key := by
    have e := h.id k r hr
    have new : ∀ y, y ∈ U → keyOp x y = false ∧ keyOp y x = false := fun y hy => by
      by_cases hby : y.by_ = (k : Int)
      · have hy' := h.own y hy k r hr hby
        have := (List.pairwise_append.1 hl.sorted).2.2 y hy' x (by simp)
        exact ⟨(keyOp_lt this).2, (keyOp_lt this).1⟩
      · have hne : ¬ x.by_ = y.by_ := fun e' => hby (by rw [← e', hb, e])
        have hne' : ¬ y.by_ = x.by_ := fun e' => hne e'.symm
        unfold keyOp
        have e1 : (x.by_ == y.by_) = false := by simpa using hne
        have e2 : (y.by_ == x.by_) = false := by simpa using hne'
        rw [e1, e2, Bool.and_false, Bool.and_false]
        exact ⟨rfl, rfl⟩
    intro a ha b hb hk
    rcases List.mem_cons.1 ha with ea | ha'
    · rcases List.mem_cons.1 hb with eb | hb'
      · rw [ea, eb]
      · rw [ea, (new b hb').1] at hk; cases hk
    · rcases List.mem_cons.1 hb with eb | hb'
      · rw [eb, (new a ha').2] at hk; cases hk
      · exact h.key a ha' b hb' hk
  fit := fun z hz => by
    rcases List.mem_cons.1 hz with rfl | hz
    · exact hf
    · exact h.fit z hz
  len := by simp only [List.length_cons]; have := h.len; omega
theorem NetI.rfit {U : List GOp} {rs : List GReplica} {i k : Nat} {r : GReplica} (h : NetI U rs i) (hr : rs[k]? = some r) : Fit B20 (.base .replica) r := by
  rw [fit_replica]
  have hk := (List.getElem?_eq_some_iff.1 hr).1
  have hn := h.n
  exact ⟨by rw [h.id k r hr]; exact int0 (wf_small (by omega) (by omega)), logFit (h.log k r hr) fun x hx => h.fit x (h.sub k r hr x hx)⟩
theorem NetI.start : NetI [] [GReplica.mk 0 [], GReplica.mk 1 [], GReplica.mk 2 []] 0 := by
  have hk : ∀ {P : Nat → GReplica → Prop}, P 0 (GReplica.mk 0 []) → P 1 (GReplica.mk 1 []) → P 2 (GReplica.mk 2 []) → ∀ (k : Nat) r, [GReplica.mk 0 [], GReplica.mk 1 [], GReplica.mk 2 []][k]? = some r → P k r := by
    intro P h0 h1 h2 k r h
    match k, h with
    | 0, h => cases h; exact h0
    | 1, h => cases h; exact h1
    | 2, h => cases h; exact h2
    | k + 3, h => simp at h
  have hn : LogP [] := ⟨fun x hx => (by cases hx), .nil, by simp⟩
  exact ⟨rfl, hk (P := fun k r => r.id = (k : Int)) rfl rfl rfl, hk (P := fun _ r => LogP r.ops) hn hn hn, hk (P := fun _ r => ∀ x, x ∈ r.ops → x ∈ ([] : List GOp)) (fun _ h => h) (fun _ h => h) (fun _ h => h),
    fun x hx => (by cases hx), fun x hx => (by cases hx), fun x hx => (by cases hx), Nat.le_refl _⟩
theorem sNewReplica_ok {n : Int} (h0 : 0 ≤ n) (h1 : n ≤ 2) : sNewReplica n = some (GReplica.mk n [], true) := by
  unfold sNewReplica
  rw [sL1In_ok, decide_eq_true h0, decide_eq_true h1]; rfl

theorem dr_inr {X β : Type} {z : Option (GCur × β)} {Q : β → Prop} (h : Dr z Q) : ∃ r, (z.bind fun r => some (.inr r : X ⊕ (GCur × β))) = some (.inr r) ∧ CurOk r.1 ∧ Q r.2 := by
  obtain ⟨c9, o, e9, k9, po⟩ := h
  exact ⟨(c9, o), by rw [e9]; rfl, k9, po⟩
theorem net_dr {c : GCur} (h : CurOk c) (b : Int) (h0 : 0 ≤ b) (h1 : b ≤ 20) : Dr (sL43Net c b) fun rs => ∃ U, NetI U rs b.toNat := by
  unfold sL43Net
  have hw : w64 (b + 1) = b + 1 := w64_id (by omega) (by omega)
  have reps : ∀ i : Nat, i < 3 → sNewReplica (i : Int) = some (GReplica.mk (i : Int) [], true) := fun i hi => sNewReplica_ok (by omega) (by omega)
  refine Dr.of (count_ex (fun (s : List GReplica) (i : Nat) => ((c.b, c.i, c.h, b, s, (i : Int)) : (List Int) × Int × Int × Int × (List GReplica) × Int)) 3
    (fun i s => s = (List.range i).map fun (k : Nat) => GReplica.mk (k : Int) []) (fun (r : GCur × List GReplica) => CurOk r.1 ∧ ∃ U, NetI U r.2 b.toNat) (fun i s hi hs => ?_) (fun s hs => ?_) [] rfl)
  · have hd : decide ((i : Int) < 3) = true := by simp; omega
    have hwi : w64 ((i : Int) + 1) = ((i + 1 : Nat) : Int) := by rw [w64_id (by omega) (by omega)]; omega
    refine ⟨s ++ [GReplica.mk (i : Int) []], ?_, by rw [hs, List.range_succ, List.map_append]; rfl⟩
    have hsl : s.length = i := by rw [hs]; simp
    simp only [hd, cond_true, reps i hi, Option.bind_some, gd_ok (show s.length + [GReplica.mk (i : Int) []].length ≤ 34359738368 by simp; omega), hwi]
  · have hs : s = [GReplica.mk 0 [], GReplica.mk 1 [], GReplica.mk 2 []] := hs
    have hd : decide (((3 : Nat) : Int) < 3) = false := rfl
    simp only [hd, cond_false]
    refine dr_inr (Q := fun rs => ∃ U, NetI U rs b.toNat) ?_
    rw [hw]
    refine Dr.bind (below_dr (c := GCur.mk c.b c.i c.h) h (b + 1)) fun c1 n k1 p1 => ?_
    have hn := p1.2 (by omega)
    obtain ⟨m, rfl⟩ := nat_of p1.1
    refine Dr.of (count_ex (fun (z : GCur × List GReplica) (i : Nat) => ((z.1.b, z.1.i, z.1.h, z.2, (m : Int), (i : Int)) : (List Int) × Int × Int × (List GReplica) × Int × Int)) m
      (fun i z => CurOk z.1 ∧ ∃ U, NetI U z.2 i) (fun (r : GCur × List GReplica) => CurOk r.1 ∧ ∃ U, NetI U r.2 b.toNat) (fun i z hi hz => ?_) (fun z hz => ?_) (c1, s) ⟨k1, [], by rw [hs]; exact NetI.start⟩)
    · obtain ⟨⟨zc, rs⟩, hc, U, hI⟩ : ∃ z' : GCur × List GReplica, CurOk z'.1 ∧ ∃ U, NetI U z'.2 i := ⟨z, hz⟩
      obtain ⟨zc, rs⟩ := z
      obtain ⟨hc, U, hI⟩ := hz
      have hc : CurOk zc := hc
      have hI : NetI U rs i := hI
      obtain ⟨c2, y, e2, k2, p2, q2⟩ := below_ok (c := GCur.mk zc.b zc.i zc.h) hc 3
      have hy3 := q2 (by omega)
      obtain ⟨k, rfl⟩ := nat_of p2
      obtain ⟨c3, b3, e3, k3⟩ := once_ok k2 3
      have hrn := hI.n
      obtain ⟨r, er, _, hr⟩ := idx_get (xs := rs) (n := k) (by omega)
      simp only [cnt_lt hi, cond_true, e2, e3, Option.bind_some, er, Int.toNat_natCast, hr, cnt_w hi (show m ≤ 1048576 by omega)]
      cases b3 with
      | true =>
        obtain ⟨c4, d, e4, k4, p4, q4⟩ := below_ok k3 2
        have hd2 := q4 (by omega)
        obtain ⟨j, hj, ej⟩ : ∃ j : Nat, j < 3 ∧ (w64 (w64 ((k : Int) + 1) + d)).tmod 3 = (j : Int) := by
          have hk : k = 0 ∨ k = 1 ∨ k = 2 := by omega
          have hd : d = 0 ∨ d = 1 := by omega
          rcases hk with rfl | rfl | rfl <;> rcases hd with rfl | rfl
          · exact ⟨1, by omega, by decide⟩
          · exact ⟨2, by omega, by decide⟩
          · exact ⟨2, by omega, by decide⟩
          · exact ⟨0, by omega, by decide⟩
          · exact ⟨0, by omega, by decide⟩
          · exact ⟨1, by omega, by decide⟩
        obtain ⟨q, eq, _, hq⟩ := idx_get (xs := rs) (n := j) (by omega)
        obtain ⟨w, ok, e5, hw5⟩ := pull_net r q (hI.rfit hr) (hI.rfit hq)
        simp only [cond_true, e4, Option.bind_some, ej, eq, Int.toNat_natCast, hq, e5]
        refine ⟨(c4, rs.set k w), rfl, k4, ?_⟩
        rcases hw5 with rfl | ⟨rfl, hl⟩
        · exact ⟨U, hI.keep hr⟩
        · exact ⟨U, hI.pull hr hq hl⟩
      | false =>
        have hlog := hI.log k r hr
        obtain ⟨c4, o, e4, k4, po⟩ := make41_dr k3 r.ops (by have := hlog.len; omega) 300 (by omega) (by omega) (fun x hx => (op_valid (hlog.op x hx)).1.2) (k : Int) (by omega) (by omega)
        obtain ⟨w, ok, e5, hw5⟩ := addOp_net r o (hI.rfit hr) po.fit
        simp only [cond_false, e4, Option.bind_some, e5]
        refine ⟨(c4, rs.set k w), rfl, k4, ?_⟩
        rcases hw5 with rfl | ⟨x, rfl, hb, hf, hl⟩
        · exact ⟨U, hI.keep hr⟩
        · exact ⟨x :: U, hI.add hr hb hf hl⟩
    · obtain ⟨hc, U, hI⟩ := hz
      exact ⟨(z.1, z.2), by simp only [nlt_self, cond_false], hc, U, { hI with len := by have := hI.len; omega }⟩
theorem sameOps_self (l : List GOp) (hl : l.length ≤ 1000) (hf : ∀ x, x ∈ l → OpF x) : sameOps l l = some true := by
  have hll : l.length < lim := by show l.length < 4611686018427387904; omega
  unfold sameOps
  rw [bne_self_i, cond_false]
  refine of_exv (list_ex (fun (_ : Unit) (i : Nat) => ((l, l, (i : Int)) : (List GOp) × (List GOp) × Int)) l (fun _ _ => True) (fun r => r = true) (fun i x _ hx _ => .inl ⟨(), ?_, trivial⟩) (fun _ _ => ?_) () trivial)
  · simp only [dec_lt hx, cond_true, idx_nat, hx, Option.bind_some, sEqualOp_ok x x (hf x (List.mem_of_getElem? hx)), eqd_self, Bool.not_true, cond_false, w_succ hx hll]
  · exact ⟨_, by simp only [nlt_self, cond_false], rfl⟩

end Go.Proofs.YtjpmhfhcbehgcaaGreat
