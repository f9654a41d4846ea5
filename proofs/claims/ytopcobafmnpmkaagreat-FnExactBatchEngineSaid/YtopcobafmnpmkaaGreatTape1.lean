/- Plain laws of merged reads and of tapes, with no program in sight. Plain laws: the functions on reads and tapes, both sides, are the plain ones. Plain laws: putting and copying of tapes, both sides. -/
import Derived.Test.YtopcobafmnpmkaaGreatLawsC
import Derived.Test.YtopcobafmnpmkaaGreatOps1
import Derived.Test.YtopcobafmnpmkaaGreatLawsD
set_option linter.unusedSimpArgs false
set_option linter.unusedVariables false
namespace Go.Proofs.YtopcobafmnpmkaaGreat
open Go.Abs Go.Proofs

/-- the same effect at the same time -/
noncomputable def sameR (x y : GRead) : Bool := eqd x.kind y.kind && (eqd x.n y.n && (eqd x.text y.text && eqd x.time y.time))
theorem sameR_iff {x y : GRead} : sameR x y = true ↔ x.kind = y.kind ∧ x.n = y.n ∧ x.text = y.text ∧ x.time = y.time := by
  unfold sameR; simp only [Bool.and_eq_true, eqd_iff]
theorem sameR_self (x : GRead) : sameR x x = true := sameR_iff.2 ⟨rfl, rfl, rfl, rfl⟩
theorem sameR_trans {x y z : GRead} (h : sameR x y = true) (h' : sameR y z = true) : sameR x z = true := by
  rw [sameR_iff] at *
  exact ⟨h.1.trans h'.1, h.2.1.trans h'.2.1, h.2.2.1.trans h'.2.2.1, h.2.2.2.trans h'.2.2.2⟩
noncomputable def hasR (l : List GRead) (r : GRead) : Bool := l.any fun x => sameR x r
noncomputable def findR (l : List GRead) (r : GRead) : Option GRead := l.find? fun x => sameR x r
noncomputable def addR (l : List GRead) (r : GRead) : List GRead := bif hasR l r then l else l ++ [r]
noncomputable def mergeR (a b : List GRead) : List GRead := b.foldl addR a
theorem findR_has (l : List GRead) (r : GRead) : (findR l r).isSome = hasR l r := by
  unfold findR hasR
  induction l with
  | nil => rfl
  | cons x l ih =>
    rw [List.find?_cons, List.any_cons]
    cases sameR x r with
    | true => rfl
    | false => simpa using ih
theorem hasR_addR_self (l : List GRead) (r : GRead) : hasR (addR l r) r = true := by
  unfold addR
  cases h : hasR l r with
  | true => exact h
  | false => simp [hasR, sameR_self]
theorem hasR_addR {l : List GRead} {r x : GRead} (h : hasR l x = true) : hasR (addR l r) x = true := by
  unfold addR
  cases hasR l r with
  | true => exact h
  | false =>
    simp only [cond_false]
    unfold hasR at h ⊢
    rw [List.any_append, h]; rfl
theorem hasR_merge_left : ∀ (b : List GRead) {a : List GRead} {x : GRead}, hasR a x = true → hasR (mergeR a b) x = true
  | [], _, _, h => h
  | r :: b, a, x, h => hasR_merge_left b (a := addR a r) (hasR_addR h)
theorem hasR_merge_right : ∀ (b : List GRead) {a : List GRead} {x : GRead}, x ∈ b → hasR (mergeR a b) x = true
  | r :: b, a, x, h => by
    rcases List.mem_cons.1 h with rfl | h
    · exact hasR_merge_left b (a := addR a x) (hasR_addR_self a x)
    · exact hasR_merge_right b (a := addR a r) h
theorem hasR_mem {l : List GRead} {x : GRead} (h : x ∈ l) : hasR l x = true := by
  unfold hasR
  rw [List.any_eq_true]
  exact ⟨x, h, sameR_self x⟩
theorem merge_known : ∀ (b : List GRead) {a : List GRead}, (∀ x ∈ b, hasR a x = true) → mergeR a b = a
  | [], _, _ => rfl
  | r :: b, a, h => by
    have e : addR a r = a := by unfold addR; rw [h r List.mem_cons_self]; rfl
    show mergeR (addR a r) b = a
    rw [e]
    exact merge_known b fun x hx => h x (List.mem_cons_of_mem _ hx)
theorem merge_again (a b : List GRead) : mergeR (mergeR a b) b = mergeR a b := merge_known b fun _ hx => hasR_merge_right b hx
theorem merge_first (a b : List GRead) : mergeR (mergeR a b) a = mergeR a b := merge_known a fun _ hx => hasR_merge_left b (hasR_mem hx)
theorem merge_self (a : List GRead) : mergeR a a = a := merge_known a fun _ hx => hasR_mem hx
theorem merge_append : ∀ (b a : List GRead), ∃ t, mergeR a b = a ++ t ∧ t.Sublist b
  | [], a => ⟨[], by simp [mergeR], List.Sublist.refl _⟩
  | r :: b, a => by
    obtain ⟨t, e, s⟩ := merge_append b (addR a r)
    have e' : mergeR a (r :: b) = mergeR (addR a r) b := rfl
    rw [e', e]
    unfold addR
    cases hasR a r with
    | true => exact ⟨t, rfl, s.cons _⟩
    | false => exact ⟨r :: t, by simp, s.cons_cons _⟩
theorem merge_find {a b : List GRead} {r x : GRead} (h : findR a r = some x) : findR (mergeR a b) r = some x := by
  obtain ⟨t, e, _⟩ := merge_append b a
  rw [e]
  unfold findR at h ⊢
  rw [List.find?_append, h]; rfl
theorem merge_len (a b : List GRead) : a.length ≤ (mergeR a b).length ∧ (mergeR a b).length ≤ a.length + b.length := by
  obtain ⟨t, e, s⟩ := merge_append b a
  rw [e, List.length_append]
  have := s.length_le
  omega
theorem merge_mem {a b : List GRead} {x : GRead} (h : x ∈ mergeR a b) : x ∈ a ∨ x ∈ b := by
  obtain ⟨t, e, s⟩ := merge_append b a
  rw [e, List.mem_append] at h
  rcases h with h | h
  · exact .inl h
  · exact .inr (s.subset h)
theorem merge_nil_again (b : List GRead) : mergeR (mergeR [] b) b = mergeR [] b := merge_again [] b

/-! tapes -/
noncomputable def keyT (c v : Int) (t : GTape) : Bool := eqd t.cell c && eqd t.version v
noncomputable def befT (x y : GTape) : Bool := decide (x.cell < y.cell) || (eqd x.cell y.cell && decide (x.version < y.version))
/-- the reads of the first tape of a version of a cell -/
noncomputable def readsOf (l : List GTape) (c v : Int) : List GRead := match l.find? (keyT c v) with
  | some t => t.reads
  | none => []
noncomputable def growT (c v : Int) (rs : List GRead) : List GTape → List GTape
  | [] => []
  | t :: r => bif keyT c v t then GTape.mk t.cell t.version (mergeR t.reads rs) :: r else t :: growT c v rs r
noncomputable def insT (x : GTape) : List GTape → List GTape
  | [] => [x]
  | t :: r => bif befT x t then x :: t :: r else t :: insT x r
noncomputable def putT (l : List GTape) (c v : Int) (rs : List GRead) : List GTape :=
  bif l.any (keyT c v) then growT c v rs l else match rs with
    | [] => l
    | _ :: _ => insT (GTape.mk c v (mergeR [] rs)) l
theorem growT_len (c v : Int) (rs : List GRead) : ∀ l, (growT c v rs l).length = l.length
  | [] => rfl
  | t :: r => by
    unfold growT
    cases keyT c v t with
    | true => rfl
    | false => simp [growT_len c v rs r]
theorem insT_len (x : GTape) : ∀ l, (insT x l).length = l.length + 1
  | [] => rfl
  | t :: r => by
    unfold insT
    cases befT x t with
    | true => rfl
    | false => simp [insT_len x r]
theorem putT_len (l : List GTape) (c v : Int) (rs : List GRead) : l.length ≤ (putT l c v rs).length ∧ (putT l c v rs).length ≤ l.length + 1 := by
  unfold putT
  cases l.any (keyT c v) with
  | true => rw [cond_true, growT_len]; omega
  | false =>
    rw [cond_false]
    cases rs with
    | nil => simp
    | cons r rs => simp only; rw [insT_len]; omega
theorem growT_mem {c v : Int} {rs : List GRead} : ∀ {l : List GTape} {t : GTape}, t ∈ growT c v rs l → t ∈ l ∨ ∃ u, u ∈ l ∧ t = GTape.mk u.cell u.version (mergeR u.reads rs)
  | u :: r, t, h => by
    unfold growT at h
    cases hk : keyT c v u with
    | true =>
      rw [hk, cond_true] at h
      rcases List.mem_cons.1 h with rfl | h
      · exact .inr ⟨u, List.mem_cons_self, rfl⟩
      · exact .inl (List.mem_cons_of_mem _ h)
    | false =>
      rw [hk, cond_false] at h
      rcases List.mem_cons.1 h with rfl | h
      · exact .inl List.mem_cons_self
      · rcases growT_mem h with h | ⟨w, hw, e⟩
        · exact .inl (List.mem_cons_of_mem _ h)
        · exact .inr ⟨w, List.mem_cons_of_mem _ hw, e⟩
theorem insT_mem {x : GTape} : ∀ {l : List GTape} {t : GTape}, t ∈ insT x l → t = x ∨ t ∈ l
  | [], t, h => by
    unfold insT at h
    exact .inl (List.mem_singleton.1 h)
  | u :: r, t, h => by
    unfold insT at h
    cases hk : befT x u with
    | true =>
      rw [hk, cond_true] at h
      exact List.mem_cons.1 h
    | false =>
      rw [hk, cond_false] at h
      rcases List.mem_cons.1 h with rfl | h
      · exact .inr List.mem_cons_self
      · rcases insT_mem h with h | h
        · exact .inl h
        · exact .inr (List.mem_cons_of_mem _ h)
theorem putT_mem {l : List GTape} {c v : Int} {rs : List GRead} {t : GTape} (h : t ∈ putT l c v rs) :
    t ∈ l ∨ (∃ u, u ∈ l ∧ t = GTape.mk u.cell u.version (mergeR u.reads rs)) ∨ t = GTape.mk c v (mergeR [] rs) := by
  unfold putT at h
  cases hk : l.any (keyT c v) with
  | true =>
    rw [hk, cond_true] at h
    rcases growT_mem h with h | h
    · exact .inl h
    · exact .inr (.inl h)
  | false =>
    rw [hk, cond_false] at h
    cases rs with
    | nil => exact .inl h
    | cons r rs =>
      rcases insT_mem h with h | h
      · exact .inr (.inr h)
      · exact .inl h
theorem keyT_iff {c v : Int} {t : GTape} : keyT c v t = true ↔ t.cell = c ∧ t.version = v := by
  unfold keyT; simp only [Bool.and_eq_true, eqd_iff]
theorem keyT_grow {c v c' v' : Int} {t : GTape} {rs : List GRead} : keyT c v (GTape.mk t.cell t.version rs) = keyT c v t := rfl
theorem readsOf_cons (t : GTape) (r : List GTape) (c v : Int) : readsOf (t :: r) c v = bif keyT c v t then t.reads else readsOf r c v := by
  unfold readsOf
  rw [List.find?_cons]
  cases keyT c v t <;> rfl
theorem readsOf_none {l : List GTape} {c v : Int} (h : l.any (keyT c v) = false) : readsOf l c v = [] := by
  unfold readsOf
  have : l.find? (keyT c v) = none := by
    rw [List.find?_eq_none]
    intro x hx hk
    rw [List.any_eq_false] at h
    exact h x hx hk
  rw [this]
theorem growT_readsOf (c v : Int) (rs : List GRead) : ∀ {l : List GTape}, l.any (keyT c v) = true → readsOf (growT c v rs l) c v = mergeR (readsOf l c v) rs
  | t :: r, h => by
    unfold growT
    cases hk : keyT c v t with
    | true => rw [cond_true, readsOf_cons, readsOf_cons, keyT_grow (c' := c) (v' := v), hk]; rfl
    | false =>
      rw [cond_false, readsOf_cons, readsOf_cons, hk]
      rw [List.any_cons, hk, Bool.false_or] at h
      exact growT_readsOf c v rs h
theorem key_ne {c v c' v' : Int} {t : GTape} (hk : keyT c v t = true) (hne : ¬ (c' = c ∧ v' = v)) : keyT c' v' t = false := by
  rw [← Bool.not_eq_true, keyT_iff]
  rw [keyT_iff] at hk
  intro h
  exact hne ⟨h.1.symm.trans hk.1, h.2.symm.trans hk.2⟩
theorem growT_other (c v : Int) (rs : List GRead) {c' v' : Int} (hne : ¬ (c' = c ∧ v' = v)) : ∀ (l : List GTape), readsOf (growT c v rs l) c' v' = readsOf l c' v'
  | [] => rfl
  | t :: r => by
    unfold growT
    cases hk : keyT c v t with
    | true => rw [cond_true, readsOf_cons, readsOf_cons, keyT_grow (c' := c) (v' := v), key_ne hk hne]; rfl
    | false => rw [cond_false, readsOf_cons, readsOf_cons, growT_other c v rs hne r]
theorem insT_readsOf (x : GTape) : ∀ {l : List GTape}, l.any (keyT x.cell x.version) = false → readsOf (insT x l) x.cell x.version = x.reads
  | [], _ => by unfold insT; rw [readsOf_cons, keyT_iff.2 ⟨rfl, rfl⟩]; rfl
  | t :: r, h => by
    rw [List.any_cons, Bool.or_eq_false_iff] at h
    unfold insT
    cases befT x t with
    | true => rw [cond_true, readsOf_cons, keyT_iff.2 ⟨rfl, rfl⟩]; rfl
    | false => rw [cond_false, readsOf_cons, h.1]; exact insT_readsOf x h.2
theorem insT_other (x : GTape) {c' v' : Int} (hne : ¬ (c' = x.cell ∧ v' = x.version)) : ∀ (l : List GTape), readsOf (insT x l) c' v' = readsOf l c' v'
  | [] => by unfold insT; rw [readsOf_cons, key_ne (keyT_iff.2 ⟨rfl, rfl⟩) hne]; rfl
  | t :: r => by
    unfold insT
    cases befT x t with
    | true => rw [cond_true, readsOf_cons, key_ne (keyT_iff.2 ⟨rfl, rfl⟩) hne]; rfl
    | false => rw [cond_false, readsOf_cons, readsOf_cons, insT_other x hne r]
theorem putT_readsOf (l : List GTape) (c v : Int) (rs : List GRead) : readsOf (putT l c v rs) c v = mergeR (readsOf l c v) rs := by
  unfold putT
  cases hk : l.any (keyT c v) with
  | true => rw [cond_true]; exact growT_readsOf c v rs hk
  | false =>
    rw [cond_false, readsOf_none hk]
    cases rs with
    | nil => exact readsOf_none hk
    | cons r rs => exact insT_readsOf (GTape.mk c v (mergeR [] (r :: rs))) hk
theorem putT_other (l : List GTape) (c v : Int) (rs : List GRead) {c' v' : Int} (hne : ¬ (c' = c ∧ v' = v)) : readsOf (putT l c v rs) c' v' = readsOf l c' v' := by
  unfold putT
  cases l.any (keyT c v) with
  | true => exact growT_other c v rs hne l
  | false =>
    rw [cond_false]
    cases rs with
    | nil => rfl
    | cons r rs => exact insT_other (GTape.mk c v (mergeR [] (r :: rs))) hne l
theorem growT_any (c v : Int) (rs : List GRead) (c' v' : Int) : ∀ (l : List GTape), (growT c v rs l).any (keyT c' v') = l.any (keyT c' v')
  | [] => rfl
  | t :: r => by
    unfold growT
    cases keyT c v t with
    | true => rw [cond_true, List.any_cons, List.any_cons]; rfl
    | false => rw [cond_false, List.any_cons, List.any_cons, growT_any c v rs c' v' r]
theorem insT_any (x : GTape) : ∀ (l : List GTape), (insT x l).any (keyT x.cell x.version) = true
  | [] => by unfold insT; rw [List.any_cons, keyT_iff.2 ⟨rfl, rfl⟩]; rfl
  | t :: r => by
    unfold insT
    cases befT x t with
    | true => rw [cond_true, List.any_cons, keyT_iff.2 ⟨rfl, rfl⟩]; rfl
    | false => rw [cond_false, List.any_cons, insT_any x r, Bool.or_true]
/-- a tape that knows the reads does not grow -/
theorem growT_known (c v : Int) (rs : List GRead) : ∀ (l : List GTape), mergeR (readsOf l c v) rs = readsOf l c v → growT c v rs l = l
  | [], _ => rfl
  | t :: r, h => by
    rw [readsOf_cons] at h
    unfold growT
    cases hk : keyT c v t with
    | true => rw [hk, cond_true] at h; rw [cond_true, h]
    | false => rw [hk, cond_false] at h; rw [cond_false, growT_known c v rs r h]
theorem putT_known {l : List GTape} {c v : Int} {rs : List GRead} (h : mergeR (readsOf l c v) rs = readsOf l c v) (ha : l.any (keyT c v) = true ∨ rs = []) : putT l c v rs = l := by
  unfold putT
  rcases ha with ha | rfl
  · rw [ha, cond_true]; exact growT_known c v rs l h
  · cases l.any (keyT c v) with
    | true => rw [cond_true]; exact growT_known c v [] l h
    | false => rfl
theorem putT_any (l : List GTape) (c v : Int) (rs : List GRead) : (putT l c v rs).any (keyT c v) = true ∨ rs = [] := by
  unfold putT
  cases hk : l.any (keyT c v) with
  | true => rw [cond_true, growT_any]; exact .inl hk
  | false =>
    cases rs with
    | nil => exact .inr rfl
    | cons r rs => exact .inl (insT_any (GTape.mk c v (mergeR [] (r :: rs))) l)
/-- putting again changes nothing -/
theorem putT_again (l : List GTape) (c v : Int) (rs : List GRead) : putT (putT l c v rs) c v rs = putT l c v rs :=
  putT_known (by rw [putT_readsOf]; exact merge_again _ _) (putT_any l c v rs)

/-! order -/
theorem befT_iff {x y : GTape} : befT x y = true ↔ x.cell < y.cell ∨ (x.cell = y.cell ∧ x.version < y.version) := by
  unfold befT; simp only [Bool.or_eq_true, Bool.and_eq_true, decide_eq_true_eq, eqd_iff]
theorem befT_trans {x y z : GTape} (h : befT x y = true) (h' : befT y z = true) : befT x z = true := by
  rw [befT_iff] at *; omega
theorem befT_total {x y : GTape} (h : befT x y = false) : befT y x = true ∨ keyT x.cell x.version y = true := by
  rw [← Bool.not_eq_true, befT_iff] at h
  rw [befT_iff, keyT_iff]; omega
def ordT : List GTape → Prop
  | [] => True
  | x :: r => (∀ y, r.head? = some y → befT x y = true) ∧ ordT r
theorem ordT_grow (c v : Int) (rs : List GRead) : ∀ {l : List GTape}, ordT l → ordT (growT c v rs l) ∧ ∀ y, (growT c v rs l).head? = some y → ∃ z, l.head? = some z ∧ y.cell = z.cell ∧ y.version = z.version
  | [], _ => ⟨trivial, fun y h => (by cases h)⟩
  | t :: r, h => by
    obtain ⟨h1, h2⟩ := h
    unfold growT
    cases keyT c v t with
    | true =>
      rw [cond_true]
      refine ⟨⟨fun y hy => ?_, h2⟩, fun y hy => ?_⟩
      · have := h1 y hy
        rw [befT_iff] at this ⊢
        exact this
      · cases hy
        exact ⟨t, rfl, rfl, rfl⟩
    | false =>
      rw [cond_false]
      obtain ⟨i1, i2⟩ := ordT_grow c v rs h2
      refine ⟨⟨fun y hy => ?_, i1⟩, fun y hy => ?_⟩
      · obtain ⟨z, hz, e1, e2⟩ := i2 y hy
        have := h1 z hz
        rw [befT_iff] at this ⊢
        rw [e1, e2]
        exact this
      · cases hy
        exact ⟨t, rfl, rfl, rfl⟩
theorem ordT_ins (x : GTape) : ∀ {l : List GTape}, ordT l → l.any (keyT x.cell x.version) = false → ordT (insT x l) ∧ ∀ y, (insT x l).head? = some y → y = x ∨ l.head? = some y
  | [], _, _ => by
    unfold insT
    exact ⟨⟨fun y h => (by cases h), trivial⟩, fun y h => (by cases h; exact .inl rfl)⟩
  | t :: r, h, hk => by
    obtain ⟨h1, h2⟩ := h
    rw [List.any_cons, Bool.or_eq_false_iff] at hk
    unfold insT
    cases hb : befT x t with
    | true =>
      rw [cond_true]
      exact ⟨⟨fun y hy => (by cases hy; exact hb), h1, h2⟩, fun y hy => (by cases hy; exact .inl rfl)⟩
    | false =>
      rw [cond_false]
      obtain ⟨i1, i2⟩ := ordT_ins x h2 hk.2
      refine ⟨⟨fun y hy => ?_, i1⟩, fun y hy => .inr hy⟩
      rcases i2 y hy with rfl | hy
      · rcases befT_total hb with h | h
        · exact h
        · rw [hk.1] at h; cases h
      · exact h1 y hy
theorem ordT_put {l : List GTape} (h : ordT l) (c v : Int) (rs : List GRead) : ordT (putT l c v rs) := by
  unfold putT
  cases hk : l.any (keyT c v) with
  | true => exact (ordT_grow c v rs h).1
  | false =>
    rw [cond_false]
    cases rs with
    | nil => exact h
    | cons r rs => exact (ordT_ins (GTape.mk c v (mergeR [] (r :: rs))) h hk).1

/-! numbers of reads -/
def cntR (l : List GTape) : Nat := (l.map fun t => t.reads.length).sum
theorem cntR_grow (c v : Int) (rs : List GRead) : ∀ (l : List GTape), cntR l ≤ cntR (growT c v rs l)
  | [] => Nat.le_refl _
  | t :: r => by
    have ih := cntR_grow c v rs r
    have := (merge_len t.reads rs).1
    unfold growT
    cases keyT c v t with
    | true => simp only [cond_true, cntR, List.map_cons, List.sum_cons]; omega
    | false => simp only [cond_false, cntR, List.map_cons, List.sum_cons] at ih ⊢; omega
theorem cntR_ins (x : GTape) : ∀ (l : List GTape), cntR l ≤ cntR (insT x l)
  | [] => by simp [cntR]
  | t :: r => by
    have ih := cntR_ins x r
    unfold insT
    cases befT x t with
    | true => simp only [cond_true, cntR, List.map_cons, List.sum_cons]; omega
    | false => simp only [cond_false, cntR, List.map_cons, List.sum_cons] at ih ⊢; omega
theorem cntR_put (l : List GTape) (c v : Int) (rs : List GRead) : cntR l ≤ cntR (putT l c v rs) := by
  unfold putT
  cases l.any (keyT c v) with
  | true => exact cntR_grow c v rs l
  | false =>
    rw [cond_false]
    cases rs with
    | nil => exact Nat.le_refl _
    | cons r rs => exact cntR_ins _ l

/-- the loop that hands back something of the first element for which the test holds -/
theorem scan_find {α X ρ : Type} {g : X → Option (X ⊕ ρ)} (pk : Nat → X) (xs : List α) (p : α → Bool) (f : α → ρ) (no : ρ)
    (h1 : ∀ i x, xs[i]? = some x → g (pk i) = bif p x then some (.inr (f x)) else some (.inl (pk (i + 1))))
    (h2 : g (pk xs.length) = some (.inr no)) : loopD g (pk 0) = some ((xs.find? p).elim no f) := by
  have key : ∀ (n i : Nat), xs.length = i + n → loopD g (pk i) = some (((xs.drop i).find? p).elim no f) := by
    intro n
    induction n with
    | zero =>
      intro i hi
      rw [List.drop_eq_nil_of_le (by omega), loopD_eq]
      have : i = xs.length := by omega
      subst this
      rw [h2]
      rfl
    | succ n ih =>
      intro i hi
      have hlt : i < xs.length := by omega
      rw [List.drop_eq_getElem_cons hlt, loopD_eq, h1 i xs[i] (List.getElem?_eq_getElem hlt), List.find?_cons]
      cases p xs[i] with
      | false => simpa using ih (i + 1) (by omega)
      | true => rfl
  simpa using key xs.length 0 (by omega)
theorem read_eta (x : GRead) : GRead.mk x.kind x.n x.time x.text (GVal.mk x.result.kind x.result.n x.result.step x.result.text x.result.list x.result.columns x.result.rows) = x := by
  cases x with
  | mk a b c d r => cases r; rfl
theorem find_snd (a : List GRead) (b : GRead) {y : GVal × Bool} (hy : y = (findR a b).elim (GVal.mk 0 0 0 [] [] [] [], false) fun x => (x.result, true)) : y.2 = hasR a b := by
  subst hy
  rw [← findR_has]
  cases findR a b <;> rfl
theorem addR_fit {l : List GRead} {r : GRead} (h : FitD B20 (.list (.base .read) l)) (hr : Fit B20 (.base .read) r) (hl : (l.length : Int) + 1 ≤ 1048576) : FitD B20 (.list (.base .read) (addR l r)) := by
  unfold addR
  cases hasR l r with
  | true => exact h
  | false =>
    refine mkList20 (by simp; omega) fun x hx => ?_
    rcases List.mem_append.1 hx with hx | hx
    · exact h.list_mem x hx
    · rw [List.mem_singleton.1 hx]; exact hr
theorem addR_len (l : List GRead) (r : GRead) : (addR l r).length ≤ l.length + 1 := by
  unfold addR
  cases hasR l r <;> simp
theorem mergeR_fit {a b : List GRead} (ha : FitD B20 (.list (.base .read) a)) (hb : FitD B20 (.list (.base .read) b)) (hl : (a.length : Int) + b.length ≤ 1048576) : FitD B20 (.list (.base .read) (mergeR a b)) := by
  have := (merge_len a b).2
  refine mkList20 (by omega) fun x hx => ?_
  rcases merge_mem hx with h | h
  · exact ha.list_mem x h
  · exact hb.list_mem x h

theorem key_at (c v : Int) (rs : List GRead) : ∀ (xs : List GTape) (i : Nat), (firstAt (keyT c v) xs i = -1 ∧ xs.any (keyT c v) = false) ∨
    ∃ (n : Nat) (x : GTape), firstAt (keyT c v) xs i = ((i + n : Nat) : Int) ∧ xs[n]? = some x ∧ xs.any (keyT c v) = true ∧ readsOf xs c v = x.reads ∧ growT c v rs xs = xs.set n (GTape.mk x.cell x.version (mergeR x.reads rs))
  | [], i => .inl ⟨rfl, rfl⟩
  | t :: r, i => by
    cases hk : keyT c v t with
    | true =>
      refine .inr ⟨0, t, ?_, rfl, ?_, ?_, ?_⟩
      · unfold firstAt; rw [hk]; simp
      · rw [List.any_cons, hk]; rfl
      · rw [readsOf_cons, hk]; rfl
      · unfold growT; rw [hk]; rfl
    | false =>
      rcases key_at c v rs r (i + 1) with ⟨h1, h2⟩ | ⟨n, x, h1, h2, h3, h4, h5⟩
      · refine .inl ⟨?_, ?_⟩
        · unfold firstAt; rw [hk, cond_false, h1]
        · rw [List.any_cons, hk, h2]; rfl
      · refine .inr ⟨n + 1, x, ?_, by simpa using h2, ?_, ?_, ?_⟩
        · unfold firstAt; rw [hk, cond_false, h1]
          have : i + 1 + n = i + (n + 1) := by omega
          rw [this]
        · rw [List.any_cons, hk, h3]; rfl
        · rw [readsOf_cons, hk, cond_false, h4]
        · unfold growT; rw [hk, cond_false, h5]; rfl
theorem tape_of {l : List GTape} (h : FitD B20 (.list (.base .tape) l)) {t : GTape} (ht : t ∈ l) : FitD B20 (.int .i64 t.cell) ∧ FitD B20 (.int .i64 t.version) ∧ FitD B20 (.list (.base .read) t.reads) := by
  have := h.list_mem t ht
  rw [fit_tape] at this
  exact this
theorem iCopyTapes_ok (a : List GTape) (h : FitD B20 (.list (.base .tape) a)) : iCopyTapes a = some a := by
  have l := list20 h
  refine copyApp (fun (s : List GTape) (i : Nat) => ((s, a, (a.length : Int), (i : Int)) : (List GTape) × (List GTape) × Int × Int)) a (some a) (fun i y hy hl => ?_) ?_
  · have hi := (List.getElem?_eq_some_iff.1 hy).1
    simp only [dec_lt hy, cond_true, idx_nat, hy, Option.bind_some, iCopyReads_ok _ (tape_of h (List.mem_of_getElem? hy)).2.2, gd_ok (show (a.take i).length + [y].length ≤ 34359738368 by simp only [hl, List.length_singleton]; omega), w_succ hy (lim20 l)]
  · simp only [nlt_self, cond_false]; rfl
theorem sL26Copy_ok (a : List GTape) (h : FitD B20 (.list (.base .tape) a)) : sL26Copy a = some a := by
  have l := list20 h
  refine copyApp (fun (s : List GTape) (i : Nat) => ((a, s, (i : Int)) : (List GTape) × (List GTape) × Int)) a (some a) (fun i y hy hl => ?_) ?_
  · have hi := (List.getElem?_eq_some_iff.1 hy).1
    simp only [dec_lt hy, cond_true, idx_nat, hy, Option.bind_some, sL16Reads_ok _ (tape_of h (List.mem_of_getElem? hy)).2.2, gd_ok (show (a.take i).length + [y].length ≤ 34359738368 by simp only [hl, List.length_singleton]; omega), w_succ hy (lim20 l)]
  · simp only [nlt_self, cond_false]; rfl
theorem readsOf_mem (a : List GTape) (b c : Int) : readsOf a b c = [] ∨ ∃ t, t ∈ a ∧ readsOf a b c = t.reads := by
  rcases key_at b c [] a 0 with ⟨h1, h2⟩ | ⟨n, x, h1, h2, h3, h4, h5⟩
  · exact .inl (readsOf_none h2)
  · exact .inr ⟨x, List.mem_of_getElem? h2, h4⟩
theorem readsOf_fit (a : List GTape) (b c : Int) (h : FitD B20 (.list (.base .tape) a)) : FitD B20 (.list (.base .read) (readsOf a b c)) := by
  rcases readsOf_mem a b c with h1 | ⟨t, ht, h1⟩
  · rw [h1]; exact mkList20 (by simp) fun x hx => by cases hx
  · rw [h1]; exact (tape_of h ht).2.2
theorem cutAt_nat {α : Type} (xs : List α) (i : Nat) (h : i ≤ xs.length) : cutAt xs (i : Int) = some i := by
  unfold cutAt
  rw [if_pos ⟨by omega, by omega⟩]
  rfl
theorem insLoop {X : Type} {g : X → Option (X ⊕ List GTape)} (pk : Nat → X) (l : List GTape) (x : GTape)
    (h1 : ∀ i t, l[i]? = some t → g (pk i) = bif befT x t then some (.inr (l.take i ++ [x] ++ l.drop i)) else some (.inl (pk (i + 1))))
    (h2 : g (pk l.length) = some (.inr (l ++ [x]))) : loopD g (pk 0) = some (insT x l) := by
  have key : ∀ (n i : Nat), l.length = i + n → loopD g (pk i) = some (l.take i ++ insT x (l.drop i)) := by
    intro n
    induction n with
    | zero =>
      intro i hi
      have : i = l.length := by omega
      subst this
      rw [loopD_eq, h2, List.drop_length, List.take_length]
      rfl
    | succ n ih =>
      intro i hi
      have hlt : i < l.length := by omega
      have hx := List.getElem?_eq_getElem hlt
      rw [loopD_eq, h1 i _ hx, List.drop_eq_getElem_cons hlt]
      unfold insT
      cases befT x l[i] with
      | true => simp only [cond_true, List.append_assoc, List.singleton_append]
      | false =>
        simp only [cond_false]
        rw [ih (i + 1) (by omega), take_snoc hx, List.append_assoc]
        rfl
  simpa using key l.length 0 (by omega)
/-- tapes that are small: their number, and the reads in one -/
def Tps (N M : Nat) (l : List GTape) : Prop := FitD B20 (.list (.base .tape) l) ∧ l.length ≤ N ∧ ∀ t ∈ l, t.reads.length ≤ M
theorem putT_tps {N M K : Nat} {l : List GTape} {c v : Int} {rs : List GRead} (h : Tps N M l) (hr : FitD B20 (.list (.base .read) rs)) (hK : rs.length ≤ K) (hN : N + 1 ≤ 1048576) (hM : M + K ≤ 1048576)
    (hc : FitD B20 (.int .i64 c)) (hv : FitD B20 (.int .i64 v)) : Tps (N + 1) (M + K) (putT l c v rs) := by
  obtain ⟨h1, h2, h3⟩ := h
  have hl := putT_len l c v rs
  have key : ∀ t ∈ putT l c v rs, Fit B20 (.base .tape) t ∧ t.reads.length ≤ M + K := by
    intro t ht
    rcases putT_mem ht with ht | ⟨u, hu, rfl⟩ | rfl
    · exact ⟨h1.list_mem t ht, by have := h3 t ht; omega⟩
    · have f := tape_of h1 hu
      have := h3 u hu
      have hm := (merge_len u.reads rs).2
      exact ⟨fit_tape.2 ⟨f.1, f.2.1, mergeR_fit f.2.2 hr (by omega)⟩, by show (mergeR u.reads rs).length ≤ _; omega⟩
    · have hm := (merge_len [] rs).2
      exact ⟨fit_tape.2 ⟨hc, hv, mergeR_fit (mkList20 (by simp) fun x hx => by cases hx) hr (by simp; omega)⟩, by show (mergeR [] rs).length ≤ _; simp at hm; omega⟩
  exact ⟨mkList20 (by omega) fun t ht => (key t ht).1, by omega, fun t ht => (key t ht).2⟩
theorem readsOf_len {N M : Nat} {a : List GTape} (h : Tps N M a) (b c : Int) : (readsOf a b c).length ≤ M := by
  rcases readsOf_mem a b c with h1 | ⟨t, ht, h1⟩
  · rw [h1]; simp
  · rw [h1]; exact h.2.2 t ht
/-- copying again changes nothing -/
theorem copy_again (l : List GTape) (b c d : Int) : putT (putT l b d (readsOf l b c)) b d (readsOf (putT l b d (readsOf l b c)) b c) = putT l b d (readsOf l b c) := by
  by_cases hcd : c = d
  · subst hcd
    have e : readsOf (putT l b c (readsOf l b c)) b c = readsOf l b c := by rw [putT_readsOf]; exact merge_self _
    rw [e]
    exact putT_again _ _ _ _
  · have e : readsOf (putT l b d (readsOf l b c)) b c = readsOf l b c := putT_other l b d _ fun h => hcd h.2
    rw [e]
    exact putT_again _ _ _ _
/-- equality of tapes and of reads -/
theorem nil20 {t : Ty} : FitD B20 (.list t []) := mkList20 (by simp) fun x hx => (by cases hx)
end Go.Proofs.YtopcobafmnpmkaaGreat
