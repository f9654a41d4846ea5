/- Structs compared cell by cell. -/
import Derived.Test.YtiedhibpaooldaaSound5
import Derived.Laws.StructEq
set_option linter.unusedSimpArgs false
set_option linter.unusedVariables false
namespace Go.Abs
open Go.RowKit

theorem eqDs_cons (d e : D) : ∀ (ds es : List D), ds.length = es.length → eqDs (d :: ds) (e :: es) = (eqD d e && eqDs ds es)
  | [], [], _ => by simp [eqDs]
  | _ :: _, _ :: _, _ => rfl
theorem eqDs_append : ∀ (d1 e1 d2 e2 : List D), d1.length = e1.length → d2.length = e2.length → eqDs (d1 ++ d2) (e1 ++ e2) = (eqDs d1 e1 && eqDs d2 e2)
  | [], [], d2, e2, _, _ => by simp [eqDs]
  | d :: d1, e :: e1, d2, e2, h1, h2 => by
    have h1' : d1.length = e1.length := by simpa using h1
    simp only [List.cons_append]
    rw [eqDs_cons _ _ _ _ (by simp [h1', h2]), eqDs_cons _ _ _ _ h1', eqDs_append d1 e1 d2 e2 h1' h2, Bool.and_assoc]
  | [], _ :: _, _, _, h, _ => by simp at h
  | _ :: _, [], _, _, h, _ => by simp at h
theorem csKd_some : ∀ {ks : List Kd} {cs : List C} {ds : List D}, csKd ks cs = some ds → cs = ds.map .d ∧ ds.map kd = ks
  | [], [], ds, h => by simp only [csKd, Option.some.injEq] at h; subst h; exact ⟨rfl, rfl⟩
  | [], _ :: _, ds, h => by simp [csKd] at h
  | _ :: _, [], ds, h => by simp [csKd] at h
  | k :: ks, c :: cs, ds, h => by
    simp only [csKd] at h
    split at h
    · rename_i d hd
      split at h
      · rename_i ds' hds
        cases h
        obtain ⟨h1, h2⟩ := csKd_some hds
        unfold cKd at hd
        split at hd
        · split at hd
          · rename_i hk
            cases hd
            exact ⟨by rw [h1]; rfl, by simp [hk, h2]⟩
          · cases hd
        · cases hd
      · cases h
    · cases h

section eqs
variable {P : Program} {w : World} {S : Nat → Nat → Prop}

/-- data, cell by cell -/
def RepL (w : World) (S : Nat → Nat → Prop) (ds : List D) (vs : List Value) : Prop := ds.length = vs.length ∧ ∀ (i : Nat) (d : D) (v : Value), ds[i]? = some d → vs[i]? = some v → Rep w S d v
theorem RepL.seg {ds : List D} {vs : List Value} (h : RepL w S ds vs) (o n : Nat) : RepL w S ((ds.drop o).take n) ((vs.drop o).take n) := by
  refine ⟨by simp [h.1], fun i d v hd hv => ?_⟩
  rw [List.getElem?_take] at hd hv
  split at hd
  · rename_i hi
    rw [if_pos hi] at hv
    rw [List.getElem?_drop] at hd hv
    exact h.2 _ d v hd hv
  · cases hd
theorem kd_rep_int {d : D} {v : Value} {k : IntKind} (hk : kd d = .int k) (h : Rep w S d v) : ∃ n, d = .int k n ∧ v = .int k n := by
  cases h <;> simp only [kd] at hk <;> cases hk
  exact ⟨_, rfl, rfl⟩
theorem kd_rep_bool {d : D} {v : Value} (hk : kd d = .bool) (h : Rep w S d v) : ∃ b, d = .bool b ∧ v = .bool b := by
  cases h <;> simp only [kd] at hk <;> cases hk
  exact ⟨_, rfl, rfl⟩
theorem kd_rep_str {d : D} {v : Value} (hk : kd d = .str) (h : Rep w S d v) : ∃ s : ByteArray, d = .str s.data.toList ∧ v = .string s := by
  cases h <;> simp only [kd] at hk <;> cases hk
  exact ⟨_, rfl, rfl⟩

/-- the value of a part: an aggregate, or its one cell -/
def partV (P : Program) (t : TypeId) (vs : List Value) : Value := match P.underlying t with
  | some (.struct _) => .agg vs.toArray
  | _ => vs.headD undef
theorem part_run {t : TypeId} {ks : List Kd} {n : Nat} (hk : eqKs P n t = some ks) (hl : ks.length = P.cellsOf t) {vs : List Value} {off : Nat} (hle : off + ks.length ≤ vs.length) :
    (part t vs.toArray off).run P w = .ok (partV P t ((vs.drop off).take ks.length)) w := by
  cases n with
  | zero => simp [eqKs] at hk
  | succ n =>
    rw [eqKs] at hk
    have one : ∀ d, P.underlying t = some d → aggD d = false → ks.length = 1 → (match d with | .struct _ => false | _ => true) = true → (part t vs.toArray off).run P w = .ok (partV P t ((vs.drop off).take ks.length)) w := by
      intro d hu hd h1 hns
      have hagg : (isAgg t).run P w = .ok false w := by
        unfold isAgg
        rw [Sem.run_bind, run_underlying hu w]
        cases d <;> simp_all [aggD]
      have hlt : off < vs.length := by omega
      have e1 : partV P t ((vs.drop off).take ks.length) = vs[off] := by
        unfold partV
        rw [hu]
        have : ((vs.drop off).take ks.length).headD undef = vs[off] := by
          rw [h1, List.drop_eq_getElem_cons hlt]; rfl
        cases d <;> first | exact this | simp at hns
      rw [e1]
      simp [part, hagg, hlt]
    split at hk
    · rename_i hu; cases hk; exact one _ hu rfl rfl rfl
    · rename_i k hu; cases hk; exact one _ hu rfl rfl rfl
    · rename_i hu; cases hk; exact one _ hu rfl rfl rfl
    · rename_i fs hu
      have hagg : (isAgg t).run P w = .ok true w := by
        unfold isAgg
        rw [Sem.run_bind, run_underlying hu w]
        rfl
      have hinfo : ∃ i, P.info? t = some i ∧ i.size = P.cellsOf t := by
        unfold Program.underlying at hu
        cases hi : P.info? t with
        | none => rw [hi] at hu; cases hu
        | some i => exact ⟨i, rfl, by simp [Program.cellsOf, hi]⟩
      obtain ⟨i, hi, hs⟩ := hinfo
      unfold partV
      rw [hu]
      simp [part, hagg, sizeOf, typeInfo, hi, hs, ← hl]
    · cases hk

theorem eqIn_run : ∀ (n m : Nat) (t : TypeId) (ks : List Kd) (ds es : List D) (vs us : List Value), eqKs P n t = some ks → ds.map kd = ks → es.map kd = ks → RepL w S ds vs → RepL w S es us →
    (Op.equalIn (n + m) t (partV P t vs) (partV P t us)).run P w = .ok (eqDs ds es) w
  | 0, m, t, ks, ds, es, vs, us, hk, _, _, _, _ => by simp [eqKs] at hk
  | n + 1, m, t, ks, ds, es, vs, us, hk, hd, he, hv, hu' => by
    have hn : n + 1 + m = (n + m) + 1 := by omega
    rw [hn]
    rw [eqKs] at hk
    split at hk
    · rename_i hu
      cases hk
      obtain ⟨d, rfl, kd1⟩ := List.map_eq_singleton_iff.1 hd
      obtain ⟨e, rfl, ke1⟩ := List.map_eq_singleton_iff.1 he
      have hvl := hv.1
      match vs, hvl with
      | [v], _ =>
      match us, hu' with
      | [u], hu' =>
        obtain ⟨a, rfl, rfl⟩ := kd_rep_bool kd1 (hv.2 0 _ _ rfl rfl)
        obtain ⟨b, rfl, rfl⟩ := kd_rep_bool ke1 (hu'.2 0 _ _ rfl rfl)
        simp only [partV, hu, List.headD_cons]
        exact run_equalIn_bool' w (n + m) t a b hu
      | [], hu' => simp [RepL] at hu'
      | _ :: _ :: _, hu' => simp [RepL] at hu'
    · rename_i k hu
      cases hk
      obtain ⟨d, rfl, kd1⟩ := List.map_eq_singleton_iff.1 hd
      obtain ⟨e, rfl, ke1⟩ := List.map_eq_singleton_iff.1 he
      have hvl := hv.1
      match vs, hvl with
      | [v], _ =>
      match us, hu' with
      | [u], hu' =>
        obtain ⟨a, rfl, rfl⟩ := kd_rep_int kd1 (hv.2 0 _ _ rfl rfl)
        obtain ⟨b, rfl, rfl⟩ := kd_rep_int ke1 (hu'.2 0 _ _ rfl rfl)
        simp only [partV, hu, List.headD_cons]
        exact run_equalIn_int w (n + m) t k k a b hu
      | [], hu' => simp [RepL] at hu'
      | _ :: _ :: _, hu' => simp [RepL] at hu'
    · rename_i hu
      cases hk
      obtain ⟨d, rfl, kd1⟩ := List.map_eq_singleton_iff.1 hd
      obtain ⟨e, rfl, ke1⟩ := List.map_eq_singleton_iff.1 he
      have hvl := hv.1
      match vs, hvl with
      | [v], _ =>
      match us, hu' with
      | [u], hu' =>
        obtain ⟨a, rfl, rfl⟩ := kd_rep_str kd1 (hv.2 0 _ _ rfl rfl)
        obtain ⟨b, rfl, rfl⟩ := kd_rep_str ke1 (hu'.2 0 _ _ rfl rfl)
        simp only [partV, hu, List.headD_cons]
        rw [run_equalIn_string w (n + m) t a b hu, bytes_toList, bytes_toList]
        rfl
      | [], hu' => simp [RepL] at hu'
      | _ :: _ :: _, hu' => simp [RepL] at hu'
    · rename_i fs hu
      split at hk
      · cases hk
      rename_i hst
      simp only [Option.bind_eq_some_iff] at hk
      obtain ⟨k, hk, hk'⟩ := hk
      split at hk'
      case isFalse => cases hk'
      rename_i hkl
      obtain rfl := Option.some.inj hk'
      have hfs : P.fieldsOf t = fs := by simp [Program.fieldsOf, hu]
      simp only [partV, hu]
      rw [run_equalIn_struct w (n + m) t _ _ (by rw [hfs]; exact hu) (by simpa using hst), hfs]
      have key : ∀ (fl : List Field) (off : Nat) (kk : List Kd), eqKFs P (eqKs P n) off fl = some kk → off + kk.length ≤ ds.length → ((ds.drop off).take kk.length).map kd = kk → ((es.drop off).take kk.length).map kd = kk →
          (Op.eqFields (n + m) vs.toArray us.toArray fl).run P w = .ok (eqDs ((ds.drop off).take kk.length) ((es.drop off).take kk.length)) w := by
        intro fl
        induction fl with
        | nil =>
          intro off kk hkk _ _ _
          simp only [eqKFs, Option.some.injEq] at hkk
          subst hkk
          simp [Op.eqFields, eqDs]
        | cons f fl ih =>
          intro off kk hkk hle h1 h2
          simp only [eqKFs] at hkk
          split at hkk
          case isFalse => cases hkk
          rename_i hf
          simp only [Option.bind_eq_some_iff] at hkk
          obtain ⟨k1, hk1, hkk⟩ := hkk
          split at hkk
          case isFalse => cases hkk
          rename_i hl1
          rw [Option.map_eq_some_iff] at hkk
          obtain ⟨k2, hk2, rfl⟩ := hkk
          have hdl := hv.1
          have hel := hu'.1
          have hds : ds.length = es.length := by
            have := congrArg List.length (hd.trans he.symm)
            simpa using this
          rw [List.length_append] at hle
          have e1 : ∀ (l : List D), (l.drop off).take (k1 ++ k2).length = (l.drop off).take k1.length ++ (l.drop (off + k1.length)).take k2.length := by
            intro l
            rw [List.length_append, List.take_add, List.drop_drop]
          rw [e1] at h1 h2 ⊢
          rw [e1]
          rw [List.map_append] at h1 h2
          have len1 : ∀ (l : List D), off + (k1.length + k2.length) ≤ l.length → (((l.drop off).take k1.length).map kd).length = k1.length := by
            intro l hl; simp; omega
          obtain ⟨a1, a2⟩ := List.append_inj h1 (len1 ds hle)
          obtain ⟨b1, b2⟩ := List.append_inj h2 (len1 es (by omega))
          have p1 := part_run (w := w) hk1 hl1 (vs := vs) (off := off) (by omega)
          have p2 := part_run (w := w) hk1 hl1 (vs := us) (off := off) (by omega)
          have ih1 := eqIn_run n m f.type k1 ((ds.drop off).take k1.length) ((es.drop off).take k1.length) ((vs.drop off).take k1.length) ((us.drop off).take k1.length) hk1 a1 b1 (hv.seg _ _) (hu'.seg _ _)
          have ih2 := ih (off + k1.length) k2 hk2 (by omega) a2 b2
          rw [eqDs_append _ _ _ _ (by simp [hds]) (by simp [hds])]
          simp only [Op.eqFields, hf.1, ne_eq, not_false_eq_true, if_true, Sem.run_bind, hf.2, p1, p2, Result.andThen_ok, ih1]
          cases eqDs ((ds.drop off).take k1.length) ((es.drop off).take k1.length) with
          | false => simp
          | true => simpa using ih2
      have hdl : k.length = ds.length := by rw [← hd]; simp
      have hel : k.length = es.length := by rw [← he]; simp
      have e1 : (ds.drop 0).take k.length = ds := by rw [hdl]; simp
      have e2 : (es.drop 0).take k.length = es := by rw [hel]; simp
      have := key fs.toList 0 k hk (by omega) (by rw [e1]; exact hd) (by rw [e2]; exact he)
      rw [e1, e2] at this
      exact this
    · cases hk
end eqs
end Go.Abs
