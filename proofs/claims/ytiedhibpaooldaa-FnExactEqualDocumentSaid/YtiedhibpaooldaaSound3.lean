/- The tables of types; what is read off a state. -/
import Derived.Test.YtiedhibpaooldaaSound2
namespace Go.Abs
open Go.RowKit

/-! tables -/
theorem lk_mem {α : Type} {l : List (Nat × α)} {k : Nat} {x : α} (h : lk l k = some x) : (k, x) ∈ l := by
  unfold lk at h
  rw [Option.map_eq_some_iff] at h
  obtain ⟨p, hp, rfl⟩ := h
  have h1 := List.find?_some hp
  have h2 := List.mem_of_find?_eq_some hp
  obtain ⟨a, b⟩ := p
  simp at h1
  subst h1
  exact h2
def aggD : TypeDesc → Bool
  | .struct _ | .array _ _ => true
  | _ => false
def zmatch : List C → List Value → Bool
  | [], [] => true
  | .d (.int k n) :: cs, .int k' n' :: vs => decide (k = k') && decide (n = n') && zmatch cs vs
  | .d (.bool b) :: cs, .bool b' :: vs => b == b' && zmatch cs vs
  | .d (.str s) :: cs, .string v :: vs => decide (v.data.toList = s) && zmatch cs vs
  | .nil :: cs, .slice none 0 0 :: vs => zmatch cs vs
  | .d (.list _ []) :: cs, .slice none 0 0 :: vs => zmatch cs vs
  | _, _ => false
def fieldOk (P : Program) (fd : Field) (fo : Nat) (agg : Bool) (n : Nat) : Bool :=
  fd.offset == fo && (match P.underlying fd.type, P.info? fd.type with
    | some d, some i => aggD d == agg && i.size == n && decide (0 < n)
    | _, _ => false)
def fieldsOk (P : Program) (F : Array Field) : Nat → List (Nat × Bool × Nat) → Bool
  | _, [] => true
  | f, (fo, agg, n) :: r => (match F[f]? with | some fd => fieldOk P fd fo agg n | none => false) && fieldsOk P F (f + 1) r
def eqKFs (P : Program) (k : TypeId → Option (List Kd)) : Nat → List Field → Option (List Kd)
  | _, [] => some []
  | off, f :: r => if f.name ≠ "_" ∧ f.offset = off then (k f.type).bind fun ks => if ks.length = P.cellsOf f.type then (eqKFs P k (off + ks.length) r).map (ks ++ ·) else none else none
def eqKs (P : Program) : Nat → TypeId → Option (List Kd)
  | 0, _ => none
  | n + 1, t => match P.underlying t with
    | some .bool => some [.bool]
    | some (.int k) => some [.int k]
    | some .string => some [.str]
    | some (.struct fs) => if P.stoodInHeld t then none else (eqKFs P (eqKs P n) 0 fs.toList).bind fun ks => if ks.length = P.cellsOf t then some ks else none
    | _ => none
def TT.ok' (P : Program) (T : TT) : Bool :=
  T.ints.all (fun x => match P.underlying x.1 with
    | some (.int k) => decide (k = x.2)
    | _ => false) &&
  T.eqs.all (fun x => decide (eqKs P 9 x.1 = some x.2) && !(P.eqGuardType P.depth x.1) && (match P.underlying x.1 with
    | some (.struct _) => true
    | _ => false)) &&
  T.elem.all (fun x => !(decide (x.2 = .base .u8)) || (match P.underlying x.1 with
    | some (.slice e) => (match P.underlying e with
      | some (.int .u8) => true
      | _ => false)
    | _ => false))
def TT.ok0 (P : Program) (T : TT) : Bool :=
  T.shape.all (fun x => match P.underlying x.1, P.info? x.1 with
    | some d, some i => i.size == x.2.2 && aggD d == x.2.1
    | _, _ => false) &&
  T.zero.all (fun x => match (P.info? x.1).bind (·.zero) with
    | some z => zmatch x.2 z.cells.toList
    | none => false) &&
  T.fields.all (fun x => match P.underlying x.1 with
    | some (.struct F) => fieldsOk P F 0 x.2 && x.2.length == F.size
    | _ => false) &&
  T.elem.all (fun x => match P.underlying x.1 with
    | some (.slice e) => (match P.info? e with
      | some i => i.size == x.2.size && decide (i.bytes ≤ 4096) && (match i.zero with
        | some z => z.cells.size == x.2.size && zmatch ((x.2.cells x.2.zero).map .d) z.cells.toList
        | none => false)
      | none => false)
    | _ => false) &&
  T.strs.all (fun x => match P.underlying x with
    | some .string => true
    | _ => false) &&
  T.bools.all (fun x => match P.underlying x with
    | some .bool => true
    | _ => false)

def TT.ok (P : Program) (T : TT) : Bool := T.ok0 P && T.ok' P

section tables
variable {P : Program} {T : TT}
theorem TT.int_ok (h : T.ok P = true) {t : Nat} {k : IntKind} (hl : lk T.ints t = some k) : P.underlying t = some (.int k) := by
  simp only [TT.ok, TT.ok', Bool.and_eq_true] at h
  have := List.all_eq_true.1 h.2.1.1 _ (lk_mem hl)
  simp only at this
  split at this
  · rename_i k' hu
    rw [hu, of_decide_eq_true this]
  · cases this
theorem TT.u8_ok (h : T.ok P = true) {t : Nat} (hl : lk T.elem t = some (.base .u8)) {e : TypeId} (hu : P.underlying t = some (.slice e)) : P.underlying e = some (.int .u8) := by
  simp only [TT.ok, TT.ok', Bool.and_eq_true] at h
  have := List.all_eq_true.1 h.2.2 _ (lk_mem hl)
  simp only [hu, decide_true, Bool.not_true, Bool.false_or] at this
  split at this
  · assumption
  · cases this
theorem TT.eqs_ok (h : T.ok P = true) {t : Nat} {ks : List Kd} (hl : lk T.eqs t = some ks) : eqKs P 9 t = some ks ∧ P.eqGuardType P.depth t = false ∧ ∃ fs, P.underlying t = some (.struct fs) := by
  simp only [TT.ok, TT.ok', Bool.and_eq_true] at h
  have := List.all_eq_true.1 h.2.1.2 _ (lk_mem hl)
  simp only [Bool.and_eq_true, decide_eq_true_eq, Bool.not_eq_true'] at this
  refine ⟨this.1.1, this.1.2, ?_⟩
  have h2 := this.2
  split at h2
  · rename_i fs hu; exact ⟨fs, hu⟩
  · cases h2
theorem TT.shape_ok (h : T.ok P = true) {t : Nat} {agg : Bool} {n : Nat} (hl : lk T.shape t = some (agg, n)) :
    ∃ d i, P.underlying t = some d ∧ P.info? t = some i ∧ i.size = n ∧ aggD d = agg := by
  replace h := (Bool.and_eq_true _ _ ▸ h).1
  simp only [TT.ok0, Bool.and_eq_true] at h
  have := List.all_eq_true.1 h.1.1.1.1.1 _ (lk_mem hl)
  simp only at this
  split at this
  · rename_i d i hd hi
    simp at this
    exact ⟨d, i, hd, hi, this.1, this.2⟩
  · cases this
theorem TT.zero_ok (h : T.ok P = true) {t : Nat} {cs : List C} (hl : lk T.zero t = some cs) :
    ∃ i z, P.info? t = some i ∧ i.zero = some z ∧ zmatch cs z.cells.toList = true := by
  replace h := (Bool.and_eq_true _ _ ▸ h).1
  simp only [TT.ok0, Bool.and_eq_true] at h
  have := List.all_eq_true.1 h.1.1.1.1.2 _ (lk_mem hl)
  simp only at this
  split at this
  · rename_i z hz
    rw [Option.bind_eq_some_iff] at hz
    obtain ⟨i, hi, hz⟩ := hz
    exact ⟨i, z, hi, hz, this⟩
  · cases this
theorem fieldsOk_get {P : Program} {F : Array Field} : ∀ (fs : List (Nat × Bool × Nat)) (k : Nat), fieldsOk P F k fs = true → ∀ (f : Nat) (fo : Nat) (agg : Bool) (n : Nat), fs[f]? = some (fo, agg, n) →
    ∃ fd, F[k + f]? = some fd ∧ fieldOk P fd fo agg n = true
  | [], k, _, f, fo, agg, n, hf => by simp at hf
  | (fo', agg', n') :: r, k, h, f, fo, agg, n, hf => by
    simp only [fieldsOk, Bool.and_eq_true] at h
    cases f with
    | zero =>
      simp at hf
      obtain ⟨rfl, rfl, rfl⟩ := hf
      have h1 := h.1
      split at h1
      · rename_i fd hfd; exact ⟨fd, hfd, h1⟩
      · cases h1
    | succ f =>
      obtain ⟨fd, h1, h2⟩ := fieldsOk_get r (k + 1) h.2 f fo agg n (by simpa using hf)
      exact ⟨fd, by rw [show k + (f + 1) = k + 1 + f by omega]; exact h1, h2⟩
theorem TT.field_ok (h : T.ok P = true) {t f fo : Nat} {agg : Bool} {n : Nat} (hl : (lk T.fields t).bind (·[f]?) = some (fo, agg, n)) :
    ∃ F fd d i, P.underlying t = some (.struct F) ∧ F[f]? = some fd ∧ fd.offset = fo ∧ P.underlying fd.type = some d ∧ P.info? fd.type = some i ∧ aggD d = agg ∧ i.size = n ∧ 0 < n := by
  replace h := (Bool.and_eq_true _ _ ▸ h).1
  simp only [TT.ok0, Bool.and_eq_true] at h
  rw [Option.bind_eq_some_iff] at hl
  obtain ⟨fs, hfs, hf⟩ := hl
  have := List.all_eq_true.1 h.1.1.1.2 _ (lk_mem hfs)
  simp only at this
  split at this
  · rename_i F hF
    rw [Bool.and_eq_true] at this
    obtain ⟨fd, h1, h2⟩ := fieldsOk_get fs 0 this.1 f fo agg n hf
    simp only [fieldOk, Bool.and_eq_true, beq_iff_eq] at h2
    obtain ⟨h2, h3⟩ := h2
    split at h3
    · rename_i d i hd hi
      simp at h3
      exact ⟨F, fd, d, i, hF, by simpa using h1, h2, hd, hi, h3.1.1, h3.1.2, h3.2⟩
    · cases h3
  · cases this
theorem fieldsOk_places {P : Program} {F : Array Field} : ∀ (fs : List (Nat × Bool × Nat)) (k : Nat), fieldsOk P F k fs = true → fs.length + k = F.size →
    (F.toList.drop k).mapM (fun f => (P.info? f.type).map fun i => (f.offset, i.size)) = some (fs.map fun x => (x.1, x.2.2))
  | [], k, _, hl => by
    have : F.toList.drop k = [] := by simp at hl ⊢; omega
    rw [this]; rfl
  | (fo, agg, n) :: r, k, h, hl => by
    simp only [fieldsOk, Bool.and_eq_true] at h
    have hk : k < F.toList.length := by simp at hl ⊢; omega
    have ih := fieldsOk_places r (k + 1) h.2 (by simp at hl ⊢; omega)
    rw [List.drop_eq_getElem_cons hk, List.mapM_cons, ih]
    have h1 := h.1
    split at h1
    · rename_i fd hfd
      have e : F.toList[k] = fd := by
        have : F.toList[k]? = some fd := by simpa using hfd
        rw [List.getElem?_eq_getElem hk] at this
        exact Option.some.inj this
      rw [e]
      simp only [fieldOk, Bool.and_eq_true, beq_iff_eq] at h1
      obtain ⟨h2, h3⟩ := h1
      split at h3
      · rename_i d i hd hi
        simp at h3
        simp [hi, h2, h3.1.2]
      · cases h3
    · cases h1
theorem TT.fields_ok (h : T.ok P = true) {t : Nat} {fs : List (Nat × Bool × Nat)} (hl : lk T.fields t = some fs) :
    ∃ F, P.underlying t = some (.struct F) ∧ F.toList.mapM (fun f => (P.info? f.type).map fun i => (f.offset, i.size)) = some (fs.map fun x => (x.1, x.2.2)) := by
  replace h := (Bool.and_eq_true _ _ ▸ h).1
  simp only [TT.ok0, Bool.and_eq_true] at h
  have := List.all_eq_true.1 h.1.1.1.2 _ (lk_mem hl)
  simp only at this
  split at this
  · rename_i F hF
    rw [Bool.and_eq_true] at this
    exact ⟨F, hF, fieldsOk_places fs 0 this.1 (by simpa using this.2)⟩
  · cases this
theorem TT.elem_ok (h : T.ok P = true) {t : Nat} {ty : Ty} (hl : lk T.elem t = some ty) :
    ∃ e i z, P.underlying t = some (.slice e) ∧ P.info? e = some i ∧ i.size = ty.size ∧ i.bytes ≤ 4096 ∧ i.zero = some z ∧ z.cells.size = ty.size ∧ zmatch ((ty.cells ty.zero).map .d) z.cells.toList = true := by
  replace h := (Bool.and_eq_true _ _ ▸ h).1
  simp only [TT.ok0, Bool.and_eq_true] at h
  have := List.all_eq_true.1 h.1.1.2 _ (lk_mem hl)
  simp only at this
  split at this
  · rename_i e he
    split at this
    · rename_i i hi
      simp only [Bool.and_eq_true, beq_iff_eq, decide_eq_true_eq] at this
      obtain ⟨⟨h1, h2⟩, h3⟩ := this
      split at h3
      · rename_i z hz
        simp only [Bool.and_eq_true, beq_iff_eq] at h3
        exact ⟨e, i, z, he, hi, h1, h2, hz, h3.1, h3.2⟩
      · cases h3
    · cases this
  · cases this
theorem TT.str_ok (h : T.ok P = true) {t : Nat} (hl : T.strs.contains t = true) : P.underlying t = some .string := by
  replace h := (Bool.and_eq_true _ _ ▸ h).1
  simp only [TT.ok0, Bool.and_eq_true] at h
  have := List.all_eq_true.1 h.1.2 t (by simpa using hl)
  split at this
  · rename_i hu; exact hu
  · cases this
theorem TT.bool_ok (h : T.ok P = true) {t : Nat} (hl : T.bools.contains t = true) : P.underlying t = some .bool := by
  replace h := (Bool.and_eq_true _ _ ▸ h).1
  simp only [TT.ok0, Bool.and_eq_true] at h
  have := List.all_eq_true.1 h.2 t (by simpa using hl)
  split at this
  · rename_i hu; exact hu
  · cases this
end tables

theorem zmatch_rep {G : Gh} {w : World} : ∀ (cs : List C) (vs : List Value), zmatch cs vs = true → CsRep G w cs vs
  | [], [], _ => trivial
  | [], _ :: _, h => by simp [zmatch] at h
  | c :: cs, [], h => by unfold zmatch at h; split at h <;> simp_all
  | c :: cs, v :: vs, h => by
    unfold zmatch at h
    split at h
    · simp_all
    · rename_i k n cs' k' n' vs' e1 e2
      cases e1; cases e2
      simp only [Bool.and_eq_true, decide_eq_true_eq] at h
      obtain ⟨⟨rfl, rfl⟩, h3⟩ := h
      exact ⟨Rep.int _ _, zmatch_rep _ _ h3⟩
    · rename_i b cs' b' vs' e1 e2
      cases e1; cases e2
      simp only [Bool.and_eq_true, beq_iff_eq] at h
      obtain ⟨rfl, h3⟩ := h
      exact ⟨Rep.bool _, zmatch_rep _ _ h3⟩
    · rename_i s cs' v' vs' e1 e2
      cases e1; cases e2
      simp only [Bool.and_eq_true, decide_eq_true_eq] at h
      obtain ⟨rfl, h3⟩ := h
      exact ⟨Rep.str _, zmatch_rep _ _ h3⟩
    · rename_i cs' vs' e1 e2
      cases e1; cases e2
      exact ⟨rfl, zmatch_rep _ _ h⟩
    · rename_i t cs' vs' e1 e2
      cases e1; cases e2
      exact ⟨Rep.nil _, zmatch_rep _ _ h⟩
    · cases h

section reads
variable {w0 : Bs} {G : Gh} {S : St} {a : Act} {w : World}

theorem Inv.getT (h : Inv w0 G S a w) (t : Nat) : AVRep G w (S.getT t) (a.tmps.getD t undef) := by
  cases ht : a.tmps[t]? with
  | some v => have := h.tmps t v ht; simpa [ht] using this
  | none =>
    have hl : a.tmps.size ≤ t := by simpa using ht
    rw [h.tsz] at hl
    have : S.getT t = .undef := by simp [St.getT, List.getD_eq_getElem?_getD, List.getElem?_eq_none hl]
    rw [this]; trivial
theorem cOfV_rep {v : Value} {c : C} (h : cOfV v = some c) : CRep G w c v := by
  unfold cOfV at h
  split at h <;> cases h
  · exact Rep.int _ _
  · exact Rep.bool _
  · exact Rep.str _
  · rfl
theorem evalO_rep (h : Inv w0 G S a w) {x : Operand} {av : AV} (hv : (evalO x).val S = some av) : AVRep G w av (a.eval x) := by
  cases x with
  | tmp t =>
    simp only [evalO, Rd.val, Option.some.injEq] at hv
    subst hv
    exact h.getT t
  | const v =>
    simp only [evalO] at hv
    split at hv
    · rename_i c hc
      simp only [Rd.val, Option.some.injEq] at hv
      subst hv
      exact cOfV_rep hc
    · cases hv
  | global g => cases hv
  | func f => cases hv
theorem avV_rep {av : AV} {x : V} {v : Value} (hx : (avV av).val S = some x) (h : AVRep G w av v) : VRep G w x v := by
  unfold avV at hx
  split at hx
  · simp only [Rd.val, Option.some.injEq] at hx; subst hx; exact h
  · cases hx
theorem avD_rep {av : AV} {x : D} {v : Value} (hx : (avD av).val S = some x) (h : AVRep G w av v) : Rep w G.S x v := by
  unfold avD at hx
  split at hx
  · simp only [Rd.val, Option.some.injEq] at hx; subst hx; exact h
  · cases hx
theorem avInt_rep {av : AV} {n : Int} {v : Value} (hx : (avInt av).val S = some n) (h : AVRep G w av v) : ∃ k, v = .int k n := by
  simp only [avInt, Rd.val_bind, Option.bind_eq_some_iff] at hx
  obtain ⟨d, hd, hx⟩ := hx
  have := avD_rep hd h
  cases this <;> simp only [Rd.val, Option.some.injEq] at hx <;> first | (subst hx; exact ⟨_, rfl⟩) | cases hx

/-- the cells that owned lists under these keys are read by -/
def AK (G : Gh) (S : St) (keys : List (Nat × Nat)) (b o : Nat) : Prop :=
  ∃ k j t xs deep m, (k, j) ∈ keys ∧ oget (S.getO k) j = .own t xs deep m ∧ G.ow b = some (.own k j) ∧ (∀ len cap, G.ov k j = .slice (some ⟨b, 0, none⟩) len cap → o < xs.length * t.size)
theorem OwT.toRep {S S' : Nat → Nat → Prop} {deep m : Bool} {t : Ty} {xs : List t.den} {v : Value} {fp : Nat → Prop} (h : OwT w S deep m t xs v fp)
    (hS : ∀ b o, S b o → S' b o) (hfp : ∀ b o, fp b → (∀ len cap, v = .slice (some ⟨b, 0, none⟩) len cap → o < xs.length * t.size) → S' b o) : Rep w S' (.list t xs) v := by
  rcases h with ⟨rfl, rfl⟩ | ⟨b, cap, arr, E, vs, fps, rfl, hb, hcap, hmax, hsz, hfb, hc, hr, hf, hdis, hs⟩
  · exact .nil t
  · refine .list t xs b 0 cap vs hcap (fun i x j d hx hd => ?_) (fun i x j d hx hd => (hr i x j d hx hd).toRep hS fun c o hcc _ => hfp c o (hf i j c hcc).1 fun len cap e => ?_)
    · have e : w.cell? ⟨b, 0 + (i * t.size + j), none⟩ = some (vs i j) := by
        simp only [Nat.zero_add, World.cell?, hb]; simpa using hc i x j d hx hd
      refine ⟨e, hfp b _ hfb fun len cap _ => ?_⟩
      have hi : i < xs.length := (List.getElem?_eq_some_iff.1 hx).1
      have hj : j < t.size := by
        have := (List.getElem?_eq_some_iff.1 hd).1
        rwa [Ty.cells_length] at this
      have h1 : (i + 1) * t.size ≤ xs.length * t.size := Nat.mul_le_mul_right _ hi
      rw [Nat.succ_mul] at h1
      omega
    · injection e with e1 _ _
      injection e1 with e1
      injection e1 with e1 _ _
      exact absurd e1.symm (hf i j c hcc).2
theorem Inv.own_rep (h : Inv w0 G S a w) {k j : Nat} {t : Ty} {xs : List t.den} {deep m : Bool} (ho : oget (S.getO k) j = .own t xs deep m) (keys : List (Nat × Nat)) (hk : (k, j) ∈ keys) :
    Rep w (fun b o => G.S b o ∨ AK G S keys b o) (.list t xs) (G.ov k j) := by
  have := h.owns k j
  rw [ho] at this
  exact OwT.toRep this (fun b o hs => .inl hs) fun b o hb hlt => .inr ⟨k, j, t, xs, deep, m, hk, ho, hb, hlt⟩
theorem Inv.ro_rep (h : Inv w0 G S a w) {k j : Nat} {t : Ty} {xs : List t.den} (ho : oget (S.getO k) j = .ro t xs) : Rep w G.S (.list t xs) (G.ov k j) := by
  have := h.owns k j
  rw [ho] at this
  exact this
theorem cD_rep (h : Inv w0 G S a w) {ty : Option Ty} {c : C} {d : D} {v : Value} (hd : (cD ty c).val S = some d) (hc : CRep G w c v) (keys : List (Nat × Nat)) (hk : ∀ k j, c = .own k j → (k, j) ∈ keys) :
    Rep w (fun b o => G.S b o ∨ AK G S keys b o) d v := by
  cases c with
  | undef => cases hd
  | d x =>
    simp only [cD, Rd.val, Option.some.injEq] at hd
    subst hd
    exact Rep.move hc fun b o hs => ⟨.inl hs, rfl⟩
  | nil =>
    simp only [cD] at hd
    split at hd
    · simp only [Rd.val, Option.some.injEq] at hd
      subst hd
      rw [show v = _ from hc]
      exact .nil _
    · cases hd
  | own k j =>
    simp only [cD, Rd.val] at hd
    rw [hc.2.1]
    split at hd
    · rename_i t xs deep m ho
      simp only [Rd.val, Option.some.injEq] at hd
      subst hd
      exact h.own_rep ho keys (hk k j rfl)
    · rename_i t xs ho
      simp only [Rd.val, Option.some.injEq] at hd
      subst hd
      exact (h.ro_rep ho).move fun b o hs => ⟨.inl hs, rfl⟩
    · cases hd
  | ptr b off => cases hd

def CellsR (R : Nat → D → Value → Prop) : Nat → List D → List Value → Prop
  | _, [], [] => True
  | n, d :: ds, v :: vs => R n d v ∧ CellsR R (n + 1) ds vs
  | _, _, _ => False
def ShR (R : Nat → D → Value → Prop) (n : Nat) (s : Sh) (x : s.t.den) (u : Value) : Prop :=
  match s.agg with
  | true => ∃ vs : List Value, u = .agg vs.toArray ∧ CellsR R n (s.t.cells x) vs
  | false => CellsR R n (s.t.cells x) [u]
def TupR (R : Nat → D → Value → Prop) : (n : Nat) → (ss : List Sh) → Tup ss → List Value → Prop
  | _, [], _, [] => True
  | n, [s], x, [u] => ShR R n s x u
  | n, s :: s' :: r, x, u :: us => ShR R n s x.1 u ∧ TupR R (n + s.t.size) (s' :: r) x.2 us
  | _, _, _, _ => False

theorem ownKeys_mem {cs : List C} {k j : Nat} : C.own k j ∈ cs → (k, j) ∈ ownKeys cs := by
  intro h
  induction cs with
  | nil => cases h
  | cons c cs ih =>
    cases h with
    | head => simp [ownKeys]
    | tail _ h =>
      cases c <;> simp only [ownKeys, List.mem_cons] <;> first | exact ih h | exact .inr (ih h)
theorem ownKeys_append (a b : List C) : ownKeys (a ++ b) = ownKeys a ++ ownKeys b := by
  induction a with
  | nil => rfl
  | cons c cs ih => cases c <;> simp [ownKeys, ih]

theorem cDs_rep (h : Inv w0 G S a w) (keys : List (Nat × Nat)) : ∀ {tys : List (Option Ty)} {cs : List C} {ds : List D} {vs : List Value} (n : Nat), (cDs tys cs).val S = some ds → tys.length = cs.length → CsRep G w cs vs →
    (∀ k j, C.own k j ∈ cs → (k, j) ∈ keys) → CellsR (fun _ d v => Rep w (fun b o => G.S b o ∨ AK G S keys b o) d v) n ds vs
  | [], [], ds, [], n, hd, _, _, _ => by
    simp only [cDs, Rd.val, Option.some.injEq] at hd; subst hd; trivial
  | ty :: tys, c :: cs, ds, v :: vs, n, hd, hl, hc, hk => by
    simp only [cDs, Rd.val_bind, Option.bind_eq_some_iff, Rd.val, Option.some.injEq] at hd
    obtain ⟨d, h1, ds', h2, rfl⟩ := hd
    exact ⟨cD_rep h h1 hc.1 keys fun k j e => hk k j (e ▸ List.mem_cons_self), cDs_rep h keys (n + 1) h2 (by simpa using hl) hc.2 fun k j e => hk k j (List.mem_cons_of_mem _ e)⟩
theorem tys_length (t : Ty) : t.tys.length = t.size := by simp [Ty.tys, Ty.cells_length]
theorem VRep.cells {x : V} {v : Value} (h : VRep G w x v) : ∃ vs : List Value, CsRep G w x.cells vs ∧ (x.isAgg = true → v = .agg vs.toArray) ∧ (x.isAgg = false → vs = [v]) := by
  cases x with
  | one c => exact ⟨[v], ⟨h, trivial⟩, by simp [V.isAgg], fun _ => rfl⟩
  | agg cs => obtain ⟨vs, hv, hc⟩ := h; exact ⟨vs, hc, fun _ => hv, by simp [V.isAgg]⟩
theorem vT_rep (h : Inv w0 G S a w) (keys : List (Nat × Nat)) {s : Sh} {x : V} {y : s.t.den} {v : Value} (n : Nat) (hy : (vT s x).val S = some y) (hx : VRep G w x v)
    (hk : ∀ k j, C.own k j ∈ x.cells → (k, j) ∈ keys) : ShR (fun _ d v => Rep w (fun b o => G.S b o ∨ AK G S keys b o) d v) n s y v := by
  simp only [vT] at hy
  split at hy
  · rename_i hg
    simp only [Rd.val_bind, Option.bind_eq_some_iff, Rd.val] at hy
    obtain ⟨ds, h1, z, h2, h3⟩ := hy
    simp only [Option.some.injEq] at h3
    subst h3
    obtain ⟨vs, hc, ha, hb⟩ := hx.cells
    have := cDs_rep h keys n h1 (by rw [tys_length]; exact hg.2.symm) hc hk
    rw [← Ty.ofCells_some h2] at this
    unfold ShR
    cases hs : s.agg with
    | true => exact ⟨vs, ha (by rw [hg.1, hs]), this⟩
    | false => rw [hb (by rw [hg.1, hs])] at this; exact this
  · cases hy
theorem vTs_rep (h : Inv w0 G S a w) (keys : List (Nat × Nat)) : ∀ {ss : List Sh} {xs : List V} {y : Tup ss} {us : List Value} (n : Nat), (vTs ss xs).val S = some y → VsRep G w xs us →
    (∀ k j x, x ∈ xs → C.own k j ∈ x.cells → (k, j) ∈ keys) → TupR (fun _ d v => Rep w (fun b o => G.S b o ∨ AK G S keys b o) d v) n ss y us
  | [], [], y, [], n, _, _, _ => trivial
  | [s], [x], y, [u], n, hy, hx, hk => vT_rep h keys n hy hx.1 fun k j e => hk k j x (by simp) e
  | s :: s' :: r, x :: xs, y, u :: us, n, hy, hx, hk => by
    simp only [vTs, Rd.val_bind, Option.bind_eq_some_iff, Rd.val, Option.some.injEq] at hy
    obtain ⟨p, h1, q, h2, rfl⟩ := hy
    exact ⟨vT_rep h keys n h1 hx.1 fun k j e => hk k j x (by simp) e, vTs_rep h keys _ h2 hx.2 fun k j z hz e => hk k j z (List.mem_cons_of_mem _ hz) e⟩
  | [s], x :: x' :: xs, y, us, n, hy, _, _ => by simp [vTs, Rd.val] at hy
  | [s], [], y, us, n, hy, _, _ => by simp [vTs, Rd.val] at hy
  | [], _ :: _, y, us, n, hy, _, _ => by simp [vTs, Rd.val] at hy
  | s :: s' :: r, [], y, us, n, hy, _, _ => by simp [vTs, Rd.val] at hy
theorem evalOs_rep (h : Inv w0 G S a w) : ∀ {xs : List Operand} {vs : List V}, (evalOs xs).val S = some vs → VsRep G w vs (xs.map a.eval)
  | [], vs, hv => by simp only [evalOs, Rd.val, Option.some.injEq] at hv; subst hv; trivial
  | x :: xs, vs, hv => by
    simp only [evalOs, Rd.val_bind, Option.bind_eq_some_iff, Rd.val, Option.some.injEq] at hv
    obtain ⟨av, h1, v, h2, vs', h3, rfl⟩ := hv
    exact ⟨avV_rep h2 (evalO_rep h h1), evalOs_rep h h3⟩
end reads
end Go.Abs
