/- append. -/
import Derived.Test.YtiedhibpaooldaaSound10
namespace Go.Abs
open Go.RowKit

section ops
variable {P : Program} {w0 : Bs} {G : Gh} {S : St} {a : Act} {w : World} {o : Oper} {K : Act → World → Prop} {Q : Exit → Act → World → Prop}

/-- The cells of a list, laid out, and whose rows they lead to. -/
def LaidC (w : World) (S : Nat → Nat → Prop) (dp : Bool) (t : Ty) (xs : List t.den) (cells : List Value) (lab : Nat → Prop) : Prop :=
  cells.length = xs.length * t.size ∧ (∀ v ∈ cells, v.oneCell' = true) ∧ ∃ (vs : Nat → Nat → Value) (fps : Nat → Nat → Nat → Prop),
    (∀ (i : Nat) (x : t.den) (j : Nat) (d : D), xs[i]? = some x → (t.cells x)[j]? = some d → cells[i * t.size + j]? = some (vs i j) ∧ Ow w S dp d (vs i j) (fps i j)) ∧
    (∀ i j c, fps i j c → lab c) ∧ (∀ i j i' j' c, fps i j c → fps i' j' c → i = i' ∧ j = j')

theorem split_index {n p : Nat} : p = p / n * n + p % n := by
  have := Nat.div_add_mod p n
  rw [Nat.mul_comm] at this
  omega
theorem index_lt {i j n m : Nat} (hi : i < m) (hj : j < n) : i * n + j < m * n := by
  have : (i + 1) * n ≤ m * n := Nat.mul_le_mul_right _ hi
  rw [Nat.succ_mul] at this
  omega
theorem cell_ex {t : Ty} {xs : List t.den} {p : Nat} (hp : p < xs.length * t.size) : ∃ x d, xs[p / t.size]? = some x ∧ (t.cells x)[p % t.size]? = some d := by
  have hs := t.size_pos
  have hi : p / t.size < xs.length := Nat.div_lt_of_lt_mul (by rw [Nat.mul_comm]; exact hp)
  have hj : p % t.size < t.size := Nat.mod_lt _ hs
  have hj' : p % t.size < (t.cells xs[p / t.size]).length := by rw [Ty.cells_length]; exact hj
  exact ⟨xs[p / t.size], (t.cells xs[p / t.size])[p % t.size], by simp [hi], by simp [hj']⟩

/-- an owned list, laid out -/
theorem OwT.laid {S : Nat → Nat → Prop} {deep m : Bool} {t : Ty} {xs : List t.den} {v : Value} {fp : Nat → Prop} (h : OwT w S deep m t xs v fp) :
    (v = .slice none 0 0 ∧ xs = []) ∨ ∃ b cap arr E rest cells, v = .slice (some ⟨b, 0, none⟩) xs.length cap ∧ w.heap[b]? = some (.cells arr E (0, 0)) ∧ xs.length ≤ cap ∧ cap ≤ maxLen ∧ arr.size = cap * t.size ∧ fp b ∧
      arr.toList = cells ++ rest ∧ LaidC w S deep t xs cells (fun c => fp c ∧ c ≠ b) ∧ (∀ o, S b o → m = false ∧ o < xs.length * t.size) := by
  rcases h with h | ⟨b, cap, arr, E, vs, fps, rfl, hb, hcap, hmax, hsz, hfb, hc, hr, hf, hdis, hs⟩
  · exact .inl h
  · have hle : xs.length * t.size ≤ arr.toList.length := by
      have e : arr.toList.length = arr.size := Array.length_toList
      rw [e, hsz]; exact Nat.mul_le_mul_right _ hcap
    have hcell : ∀ (i : Nat) (x : t.den) (j : Nat) (d : D), xs[i]? = some x → (t.cells x)[j]? = some d → (arr.toList.take (xs.length * t.size))[i * t.size + j]? = some (vs i j) := by
      intro i x j d hx hd
      have hi : i < xs.length := (List.getElem?_eq_some_iff.1 hx).1
      have hj : j < t.size := by
        have := (List.getElem?_eq_some_iff.1 hd).1
        rwa [Ty.cells_length] at this
      rw [List.getElem?_take, if_pos (index_lt hi hj)]
      simpa using hc i x j d hx hd
    refine .inr ⟨b, cap, arr, E, arr.toList.drop (xs.length * t.size), arr.toList.take (xs.length * t.size), rfl, hb, hcap, hmax, hsz, hfb, (List.take_append_drop _ _).symm, ⟨?_, ?_, vs, fps, fun i x j d hx hd => ⟨hcell i x j d hx hd, hr i x j d hx hd⟩, hf, hdis⟩, hs⟩
    · rw [List.length_take]; omega
    · intro v hv
      obtain ⟨p, hp0, rfl⟩ := List.mem_iff_getElem.1 hv
      have hp := hp0
      rw [List.length_take] at hp
      obtain ⟨x, d, hx, hd⟩ := cell_ex (t := t) (xs := xs) (p := p) (by omega)
      have e := hcell _ _ _ _ hx hd
      rw [← split_index (n := t.size)] at e
      have e2 : (arr.toList.take (xs.length * t.size))[p]? = some (arr.toList.take (xs.length * t.size))[p] := List.getElem?_eq_getElem hp0
      rw [e2] at e
      rw [Option.some.inj e]
      exact (hr _ _ _ _ hx hd).one

/-- Two lists, one behind the other in one row. -/
theorem laid_append {w' : World} {S S' : Nat → Nat → Prop} {deep dp m : Bool} {t : Ty} {xs ys : List t.den} {olds news rest : List Value} {labD labS : Nat → Prop}
    (hD : LaidC w S deep t xs olds labD) (hY : LaidC w S dp t ys news labS) (hds : ∀ c, labD c → labS c → False)
    {g cap : Nat} {arr : Array Value} {E : TypeId} (hb : w'.heap[g]? = some (.cells arr E (0, 0))) (harr : arr.toList = olds ++ news ++ rest) (hcap : xs.length + ys.length ≤ cap) (hmax : cap ≤ maxLen) (hsz : arr.size = cap * t.size)
    {lab : Nat → Prop} (hg : lab g) (hl : ∀ c, labD c ∨ labS c → lab c ∧ c ≠ g ∧ w'.heap[c]? = w.heap[c]?) (hS : ∀ b o, S b o → S' b o ∧ w'.cell? ⟨b, o, none⟩ = w.cell? ⟨b, o, none⟩)
    (hT : ∀ o, S' g o → m = false ∧ o < (xs.length + ys.length) * t.size) :
    OwT w' S' (deep && dp) m t (xs ++ ys) (.slice (some ⟨g, 0, none⟩) (xs.length + ys.length) cap) lab := by
  obtain ⟨l1, o1, vs1, fps1, c1, f1, d1⟩ := hD
  obtain ⟨l2, o2, vs2, fps2, c2, f2, d2⟩ := hY
  refine .inr ⟨g, cap, arr, E, fun i j => if i < xs.length then vs1 i j else vs2 (i - xs.length) j, fun i j c => if i < xs.length then fps1 i j c else fps2 (i - xs.length) j c, by rw [List.length_append], hb, by rw [List.length_append]; exact hcap, hmax, hsz, hg, ?_, ?_, ?_, ?_, ?_⟩
  · intro i x j d hx hd
    have hj : j < t.size := by
      have := (List.getElem?_eq_some_iff.1 hd).1
      rwa [Ty.cells_length] at this
    rw [← Array.getElem?_toList, harr]
    by_cases hi : i < xs.length
    · rw [List.getElem?_append_left hi] at hx
      have h1 := (c1 i x j d hx hd).1
      have hlt := index_lt hi hj
      rw [List.append_assoc, List.getElem?_append_left (by omega), h1]
      simp [hi]
    · rw [List.getElem?_append_right (by omega)] at hx
      have h1 := (c2 (i - xs.length) x j d hx hd).1
      have hi2 : i - xs.length < ys.length := (List.getElem?_eq_some_iff.1 hx).1
      have hlt := index_lt hi2 hj
      have e : i * t.size + j = xs.length * t.size + ((i - xs.length) * t.size + j) := by
        rw [← Nat.add_assoc, ← Nat.add_mul]; congr 2; omega
      rw [List.append_assoc, List.getElem?_append_right (by omega), List.getElem?_append_left (by omega), l1, e, Nat.add_sub_cancel_left, h1]
      simp [hi]
  · intro i x j d hx hd
    by_cases hi : i < xs.length
    · rw [List.getElem?_append_left hi] at hx
      simp only [hi, if_true]
      exact ((c1 i x j d hx hd).2.move hS fun c hc => (hl c (.inl (f1 i j c hc))).2.2).sub (fun _ hc => hc) fun e => (Bool.and_eq_true _ _ ▸ e).1
    · rw [List.getElem?_append_right (by omega)] at hx
      simp only [hi, if_false]
      exact ((c2 _ x j d hx hd).2.move hS fun c hc => (hl c (.inr (f2 _ j c hc))).2.2).sub (fun _ hc => hc) fun e => (Bool.and_eq_true _ _ ▸ e).2
  · intro i j c hc
    by_cases hi : i < xs.length
    · simp only [hi, if_true] at hc
      have := hl c (.inl (f1 i j c hc)); exact ⟨this.1, this.2.1⟩
    · simp only [hi, if_false] at hc
      have := hl c (.inr (f2 _ j c hc)); exact ⟨this.1, this.2.1⟩
  · intro i j i' j' c hc hc'
    by_cases hi : i < xs.length
    · simp only [hi, if_true] at hc
      by_cases hi' : i' < xs.length
      · simp only [hi', if_true] at hc'; exact d1 _ _ _ _ _ hc hc'
      · simp only [hi', if_false] at hc'; exact (hds c (f1 _ _ _ hc) (f2 _ _ _ hc')).elim
    · simp only [hi, if_false] at hc
      by_cases hi' : i' < xs.length
      · simp only [hi', if_true] at hc'; exact (hds c (f1 _ _ _ hc') (f2 _ _ _ hc)).elim
      · simp only [hi', if_false] at hc'
        have := d2 _ _ _ _ _ hc hc'
        omega
  · intro oo hs
    rw [List.length_append]; exact hT oo hs

theorem tys_of (t : Ty) (x : t.den) : (t.cells x).map tyOfD = t.tys := by
  cases t with
  | base b => cases b <;> rfl
  | list t => rfl
theorem flat_scalar {t : Ty} (hf : t.flat = true) {x : t.den} {j : Nat} {d : D} (hd : (t.cells x)[j]? = some d) : tyOfD d = none := by
  have h1 : ((t.cells x).map tyOfD)[j]? = some (tyOfD d) := by simp [hd]
  rw [tys_of] at h1
  have := List.all_eq_true.1 hf _ (List.mem_of_getElem? h1)
  simpa using this
theorem scalar_ow {S S' : Nat → Nat → Prop} {dp : Bool} {d : D} {v : Value} {fp : Nat → Prop} (hd : tyOfD d = none) (h : Rep w S d v) : Ow w S' dp d v fp := by
  cases h with
  | int k n => exact .int k n fp
  | bool b => exact .bool b fp
  | str s => exact .str s fp
  | nil t => cases hd
  | emp t a cap => cases hd
  | list t xs b off cap vs hcap hc hr => cases hd

/-- The list that is appended, laid out. -/
theorem src_laid (h : Inv w0 G S a w) {t : Ty} {ys : List t.den} {c : C} {v : Value} {dp : Bool} (hd : (cD (some t) c).val S = some (.list t ys)) (hc : CRep G w c v)
    (hdp : ((if t.flat then Rd.ret true else cDeep c)).val S = some dp) {S' : Nat → Nat → Prop} (hS : ∀ x o, (G.S x o ∨ AK G S (ownKeys [c]) x o) → S' x o) :
    ((∃ (ad : Option Addr) (cap : Nat), v = .slice ad 0 cap ∧ (ad = none → cap = 0)) ∧ ys = []) ∨ ∃ b off cap news, v = .slice (some ⟨b, off, none⟩) ys.length cap ∧ (∀ p u, news[p]? = some u → w.cell? ⟨b, off + p, none⟩ = some u) ∧
      LaidC w S' dp t ys news (fun x => t.flat = false ∧ rowsOf G S c x) := by
  have hrep := cD_rep h hd hc (ownKeys [c]) (fun k j e => by subst e; simp [ownKeys])
  generalize hdd : D.list t ys = dd at hrep
  cases hrep with
  | int => cases hdd
  | bool => cases hdd
  | str => cases hdd
  | nil t' => cases hdd; exact .inl ⟨⟨none, 0, rfl, fun _ => rfl⟩, rfl⟩
  | emp t' ad cap => cases hdd; exact .inl ⟨⟨some ad, cap, rfl, fun hh => (by cases hh)⟩, rfl⟩
  | list t' xs' b off cap vs hcap hcc hr =>
    cases hdd
    have hnews : ∀ (p : Nat) (u : Value), ((List.range (ys.length * t.size)).map fun p => vs (p / t.size) (p % t.size))[p]? = some u → p < ys.length * t.size ∧ u = vs (p / t.size) (p % t.size) := by
      intro p u hu
      simp only [List.getElem?_map, Option.map_eq_some_iff] at hu
      obtain ⟨q, hq, rfl⟩ := hu
      have hlt : p < ys.length * t.size := by have := (List.getElem?_eq_some_iff.1 hq).1; simpa using this
      have : q = p := by simp [hlt] at hq; exact hq.symm
      rw [this]; exact ⟨hlt, rfl⟩
    have hget : ∀ (i j : Nat), i < ys.length → j < t.size → ((List.range (ys.length * t.size)).map fun p => vs (p / t.size) (p % t.size))[i * t.size + j]? = some (vs i j) := by
      intro i j hi hj
      have hlt := index_lt hi hj
      have e1 : (i * t.size + j) / t.size = i := by rw [Nat.mul_comm, Nat.mul_add_div t.size_pos, Nat.div_eq_of_lt hj]; omega
      have e2 : (i * t.size + j) % t.size = j := by rw [Nat.mul_comm, Nat.mul_add_mod, Nat.mod_eq_of_lt hj]
      simp [hlt, e1, e2]
    refine .inr ⟨b, off, cap, (List.range (ys.length * t.size)).map fun p => vs (p / t.size) (p % t.size), rfl, ?_, by simp, ?_, ?_⟩
    · intro p u hu
      obtain ⟨hlt, rfl⟩ := hnews p u hu
      obtain ⟨x, d, hx, hd'⟩ := cell_ex (t := t) (xs := ys) hlt
      have := (hcc _ _ _ _ hx hd').1
      rw [← split_index (n := t.size)] at this
      exact this
    · intro u hu
      obtain ⟨p, he⟩ := List.mem_iff_getElem?.1 hu
      obtain ⟨hlt, rfl⟩ := hnews p u he
      obtain ⟨x, d, hx, hd'⟩ := cell_ex (t := t) (xs := ys) hlt
      exact (hr _ _ _ _ hx hd').one
    · by_cases hf : t.flat = true
      · refine ⟨vs, fun _ _ _ => False, fun i x j d hx hd' => ⟨hget i j (List.getElem?_eq_some_iff.1 hx).1 (by have := (List.getElem?_eq_some_iff.1 hd').1; rwa [Ty.cells_length] at this), scalar_ow (flat_scalar hf hd') (hr _ _ _ _ hx hd')⟩, fun _ _ _ hh => hh.elim, fun _ _ _ _ _ hh => hh.elim⟩
      · have hff : t.flat = false := by simpa using hf
        rw [if_neg hf] at hdp
        cases dp with
        | false =>
          exact ⟨vs, fun _ _ _ => False, fun i x j d hx hd' => ⟨hget i j (List.getElem?_eq_some_iff.1 hx).1 (by have := (List.getElem?_eq_some_iff.1 hd').1; rwa [Ty.cells_length] at this), .ro _ _ _ rfl ((hr _ _ _ _ hx hd').move fun x o hs => ⟨hS x o hs, rfl⟩)⟩, fun _ _ _ hh => hh.elim, fun _ _ _ _ _ hh => hh.elim⟩
        | true =>
          cases c with
          | undef => cases hd
          | d x =>
            simp only [cD, Rd.val, Option.some.injEq] at hd
            subst hd
            simp [cDeep, Rd.val] at hdp
          | nil =>
            have : Value.slice (some ⟨b, off, none⟩) ys.length cap = .slice none 0 0 := hc
            cases this
          | ptr b' off' => cases hd
          | own k j =>
            simp only [cDeep, Rd.val] at hdp
            simp only [cD, Rd.val] at hd
            have hO := h.owns k j
            split at hdp
            · rename_i t' xs' deep' m' hown
              simp only [Rd.val, Option.some.injEq] at hdp
              subst hdp
              rw [hown] at hd hO
              simp only [Rd.val, Option.some.injEq] at hd
              cases hd
              rcases hO with ⟨he, _⟩ | ⟨b', cap', arr, e', vs', fps', hv', hb', hcap', _, _, _, hc', hr', hf', hdis', _⟩
              · rw [← hc.2.1] at he; cases he
              · rw [← hc.2.1] at hv'
                injection hv' with e1 e2 e3
                injection e1 with e1
                injection e1 with e1 e4 _
                subst e1; subst e4
                refine ⟨vs, fun i j c => fps' i j c, fun i x j' d hx hd' => ?_, fun i j' c hh => ⟨hff, k, j, rfl, (hf' i j' c hh).1, _, _, _, _, hown⟩, hdis'⟩
                have hj : j' < t.size := by
                  have := (List.getElem?_eq_some_iff.1 hd').1
                  rwa [Ty.cells_length] at this
                refine ⟨hget i j' (List.getElem?_eq_some_iff.1 hx).1 hj, ?_⟩
                have ee : vs i j' = vs' i j' := by
                  have e5 := (hcc i x j' d hx hd').1
                  rw [Nat.zero_add, cell_of_row w _ _ _ _ _ hb', hc' i x j' d hx hd'] at e5
                  exact (Option.some.inj e5).symm
                rw [ee]
                exact (hr' i x j' d hx hd').move (fun x o hs => ⟨hS x o (.inl hs), rfl⟩) fun _ _ => rfl
            · simp [Rd.val] at hdp
end ops
end Go.Abs
