/- Steps of the invariant: new boxes, new owned lists, writes. -/
import Derived.Test.YtiedhibpaooldaaSound1
namespace Go.Abs
open Go.RowKit

theorem oget_set (os : List O) (j : Nat) (x : O) (j' : Nat) : oget (os.set j x) j' = if j = j' ∧ j < os.length then x else oget os j' := by
  simp only [oget, List.getD_eq_getElem?_getD, List.getElem?_set]
  by_cases h : j = j'
  · subst h
    by_cases hl : j < os.length <;> simp [hl]
  · simp [h]
theorem put_out {S : St} {a : Act} {d : Nat} {v : Value} (ht : a.tmps.size = S.tmps.length) (hd : ¬ d < S.tmps.length) : a.put (some d) v = a := by
  simp only [Act.put]
  rw [Array.setIfInBounds_eq_of_size_le (by omega)]
theorem setT_out {S : St} {d : Nat} {v : AV} (hd : ¬ d < S.tmps.length) : S.setT d v = S := by
  cases S; simp only [St.setT] at *; rw [List.set_eq_of_length_le (by omega)]
theorem setB_out {S : St} {d : Nat} {v : Option (List C)} (hd : ¬ d < S.boxes.length) : S.setB d v = S := by
  cases S; simp only [St.setB] at *; rw [List.set_eq_of_length_le (by omega)]
theorem setO_out {S : St} {d : Nat} {v : List O} (hd : ¬ d < S.owns.length) : S.setO d v = S := by
  cases S; simp only [St.setO] at *; rw [List.set_eq_of_length_le (by omega)]

section steps
variable {w0 : Bs} {G : Gh} {S : St} {a : Act} {w : World}

theorem OwnOk.same {G' : Gh} {w' : World} {k j : Nat} {x : O} (h : OwnOk G w k j x) (hov : G'.ov k j = G.ov k j)
    (hS : ∀ b o, G.S b o → G'.S b o ∧ w'.cell? ⟨b, o, none⟩ = w.cell? ⟨b, o, none⟩)
    (hown : ∀ t xs deep m, x = .own t xs deep m → (∀ b, fpOf G k j b → fpOf G' k j b ∧ w'.heap[b]? = w.heap[b]?) ∧
      ∀ b len cap, G.ov k j = .slice (some ⟨b, 0, none⟩) len cap → fpOf G k j b → ∀ o, G'.S b o → G.S b o ∨ (m = false ∧ o < xs.length * t.size)) : OwnOk G' w' k j x := by
  cases x with
  | dead => trivial
  | own t xs deep m =>
    obtain ⟨h1, h2⟩ := hown t xs deep m rfl
    show OwT w' G'.S deep m t xs (G'.ov k j) (fpOf G' k j)
    rw [hov]
    exact OwT.move h hS h1 h2
  | ro t xs =>
    show Rep w' G'.S (.list t xs) (G'.ov k j)
    rw [hov]
    exact Rep.move h hS

/-- More cells are held stable. -/
theorem Inv.addS (h : Inv w0 G S a w) (A : Nat → Nat → Prop)
    (hA : ∀ b o, A b o → b < w.heap.size ∧ (∀ i, G.ow b ≠ some (.box i)) ∧ ∀ k j t xs deep m, oget (S.getO k) j = .own t xs deep m →
      ∀ len cap, G.ov k j = .slice (some ⟨b, 0, none⟩) len cap → G.ow b = some (.own k j) → m = false ∧ o < xs.length * t.size)
    (hA0 : ∀ b o, A b o → w0.w.heap.size ≤ b) : Inv w0 { G with S := fun b o => G.S b o ∨ A b o } S a w ∧ Mv G { G with S := fun b o => G.S b o ∨ A b o } w w := by
  have hm : Mv G { G with S := fun b o => G.S b o ∨ A b o } w w := ⟨fun b o hs => ⟨.inl hs, rfl⟩, fun k hk => ⟨hk, fun _ => rfl⟩, fun i hi => ⟨hi, rfl⟩⟩
  refine ⟨⟨h.below, h.nodef, h.tsz, h.bsz, h.osz, fun i v hv => (h.tmps i v hv).move hm, h.olt, ?_, ?_, ?_, h.lk, h.lb, fun b o hs hl => hs.elim (fun hs => h.sfr b o hs hl) fun hs => absurd (hA0 b o hs) (by omega)⟩, hm⟩
  · intro b o hs
    rcases hs with hs | hs
    · exact h.sok b o hs
    · exact ⟨(hA b o hs).1, (hA b o hs).2.1⟩
  · intro i cs hcs
    obtain ⟨ho, vs, E, hh, hc⟩ := h.box i cs hcs
    exact ⟨ho, vs, E, hh, hc.move hm⟩
  · intro k j
    refine (h.owns k j).same rfl hm.s fun t xs deep m hx => ⟨fun b hb => ⟨hb, rfl⟩, fun b len cap hv hb o hs => ?_⟩
    rcases hs with hs | hs
    · exact .inl hs
    · exact .inr ((hA b o hs).2.2 k j t xs deep m hx len cap hv hb)

/-- A new box, in a row that nobody owns. -/
theorem Inv.newBox (h : Inv w0 G S a w) (i b : Nat) (hi : S.getB i = none) (hb0 : w0.w.heap.size ≤ b) (how : G.ow b = none) (hS : ∀ o, ¬ G.S b o)
    {cs : List C} {vs : List Value} {E : TypeId} (hh : w.heap[b]? = some (.cells vs.toArray E (0, 0))) (hc : CsRep G w cs vs) :
    ∃ G', Inv w0 G' ((S.setB i (some cs)).setT i (.v (.one (.ptr i 0)))) (a.put (some i) (.pointer (some ⟨b, 0, none⟩))) w := by
  have hlt : b < w.heap.size := (Array.getElem?_eq_some_iff.1 hh).1
  by_cases hil : i < S.tmps.length
  case neg =>
    refine ⟨G, ?_⟩
    rw [put_out h.tsz hil, setB_out (by rw [h.bsz]; exact hil), setT_out hil]
    exact h
  have hnl : ¬ G.lb i := fun hl => h.lb i hl hi
  let G' : Gh := { G with bk := fun x => if x = i then b else G.bk x, ow := fun x => if x = b then some (.box i) else G.ow x, lb := fun x => x = i ∨ G.lb x }
  have hm : Mv G G' w w := ⟨fun b o hs => ⟨hs, rfl⟩, fun k hk => ⟨hk, fun _ => rfl⟩, fun x hx => ⟨.inr hx, by
    show (if x = i then b else G.bk x) = _
    rw [if_neg (fun e : x = i => hnl (e ▸ hx))]⟩⟩
  have howb : ∀ x y, G.ow x = some y → G'.ow x = some y := fun x y hx => by
    show (if x = b then some (.box i) else G.ow x) = _
    rw [if_neg (fun e : x = b => by rw [e, how] at hx; cases hx)]; exact hx
  refine ⟨G', ?_⟩
  refine Inv.setT (G := G') (S := S.setB i (some cs)) ?_ i (av := .v (.one (.ptr i 0))) ⟨.inl rfl, ?_⟩
  · refine ⟨h.below, h.nodef, h.tsz, by simp [St.setB, h.bsz], by simp [St.setB, h.osz], fun x v hv => (h.tmps x v hv).move hm, ?_, ?_, ?_, ?_, h.lk, ?_, h.sfr⟩
    · intro x y hx
      by_cases hxb : x = b
      · subst hxb; exact ⟨hb0, hlt⟩
      · have : G.ow x = some y := by
          have hx' : (if x = b then some (Owner.box i) else G.ow x) = some y := hx
          rw [if_neg hxb] at hx'; exact hx'
        exact h.olt x y this
    · intro x o hs
      refine ⟨(h.sok x o hs).1, fun k => ?_⟩
      have hxb : x ≠ b := fun e => hS o (e ▸ hs)
      show (if x = b then some (Owner.box i) else G.ow x) ≠ _
      rw [if_neg hxb]; exact (h.sok x o hs).2 k
    · intro x cs' hcs'
      rw [getB_setB] at hcs'
      by_cases hxi : i = x
      · subst hxi
        rw [if_pos ⟨rfl, by rw [h.bsz]; exact hil⟩] at hcs'
        cases hcs'
        refine ⟨?_, vs, E, ?_, hc.move hm⟩
        · show (if (if i = i then b else G.bk i) = b then some (Owner.box i) else _) = _
          simp
        · show w.heap[if i = i then b else G.bk i]? = _
          simpa using hh
      · rw [if_neg (fun e => hxi e.1)] at hcs'
        obtain ⟨ho, vs', E', hh', hc'⟩ := h.box x cs' hcs'
        have hbk : G'.bk x = G.bk x := by show (if x = i then b else G.bk x) = _; rw [if_neg (fun e => hxi e.symm)]
        exact ⟨by rw [hbk]; exact howb _ _ ho, vs', E', by rw [hbk]; exact hh', hc'.move hm⟩
    · intro k j
      refine (h.owns k j).same rfl hm.s fun t xs deep m hx => ⟨fun c hc' => ⟨howb _ _ hc', rfl⟩, fun _ _ _ _ _ o hs => .inl hs⟩
    · intro x hx
      rw [getB_setB]
      by_cases hxi : i = x
      · rw [if_pos ⟨hxi, by rw [h.bsz]; exact hil⟩]; simp
      · rw [if_neg (fun e => hxi e.1)]
        rcases hx with hx | hx
        · exact absurd hx.symm hxi
        · exact h.lb x hx
  · show Value.pointer _ = .pointer (some ⟨if i = i then b else G.bk i, 0, none⟩)
    simp

/-- A box is written. -/
theorem Inv.setBox (h : Inv w0 G S a w) (i : Nat) {cs cs' : List C} (hi : S.getB i = some cs) {vs' : List Value} (hc : CsRep G w cs' vs') :
    Inv w0 G (S.setB i (some cs')) a (w.setRow (G.bk i) vs'.toArray) := by
  obtain ⟨ho, vs, E, hh, _⟩ := h.box i cs hi
  have hlt := h.olt _ _ ho
  have hoth : ∀ b, b ≠ G.bk i → (w.setRow (G.bk i) vs'.toArray).heap[b]? = w.heap[b]? := fun b hb => setRow_other w _ b _ hb
  have hcell : ∀ b o, G.S b o → (w.setRow (G.bk i) vs'.toArray).cell? ⟨b, o, none⟩ = w.cell? ⟨b, o, none⟩ := fun b o hs =>
    World.cell?_of_block (w := w) (hoth b fun e => (h.sok b o hs).2 i (e ▸ ho))
  have hm : Mv G G w (w.setRow (G.bk i) vs'.toArray) := ⟨fun b o hs => ⟨hs, hcell b o hs⟩, fun k hk => ⟨hk, fun _ => rfl⟩, fun i hi => ⟨hi, rfl⟩⟩
  have hilt : i < S.boxes.length := by
    rcases Nat.lt_or_ge i S.boxes.length with hl | hl
    · exact hl
    · simp [St.getB, List.getD_eq_getElem?_getD, List.getElem?_eq_none hl] at hi
  refine ⟨h.below.trans ⟨rfl, rfl, rfl, by simp, fun k hk => hoth k (by omega)⟩, h.nodef, h.tsz, by simp [St.setB, h.bsz], by simp [St.setB, h.osz], fun x v hv => (h.tmps x v hv).move hm, ?_, ?_, ?_, ?_, h.lk, ?_, h.sfr⟩
  · intro x y hx; simpa using h.olt x y hx
  · intro x o hs; simpa using h.sok x o hs
  · intro x cs'' hcs''
    rw [getB_setB] at hcs''
    by_cases hxi : i = x
    · subst hxi
      rw [if_pos ⟨rfl, hilt⟩] at hcs''
      cases hcs''
      exact ⟨ho, vs', E, setRow_heap w _ _ _ E (0, 0) hh, hc.move hm⟩
    · rw [if_neg (fun e => hxi e.1)] at hcs''
      obtain ⟨ho', vs'', E', hh', hc'⟩ := h.box x cs'' hcs''
      refine ⟨ho', vs'', E', (hoth _ fun e => ?_).trans hh', hc'.move hm⟩
      rw [e, ho] at ho'
      cases ho'
      exact hxi rfl
  · intro k j
    refine (h.owns k j).same rfl hm.s fun t xs deep m hx => ⟨fun c hc' => ⟨hc', hoth c fun e => ?_⟩, fun _ _ _ _ _ o hs => .inl hs⟩
    have hc'' : G.ow c = some (.own k j) := hc'
    rw [e, ho] at hc''
    cases hc''
  · intro x hx
    rw [getB_setB]
    by_cases hxi : i = x
    · rw [if_pos ⟨hxi, hilt⟩]; simp
    · rw [if_neg (fun e => hxi e.1)]; exact h.lb x hx

/-- An entry turns. -/
theorem Inv.updO (h : Inv w0 G S a w) (k j : Nat) (x : O) (hx : OwnOk G w k j x) : Inv w0 G (S.setO k ((S.getO k).set j x)) a w := by
  refine ⟨h.below, h.nodef, h.tsz, by simp [St.setO, h.bsz], by simp [St.setO, h.osz], h.tmps, h.olt, h.sok, h.box, ?_, ?_, h.lb, h.sfr⟩
  · intro k' j'
    rw [getO_setO]
    by_cases hk : k = k' ∧ k < S.owns.length
    · rw [if_pos hk, oget_set]
      by_cases hj : j = j' ∧ j < (S.getO k).length
      · rw [if_pos hj]; obtain ⟨rfl, _⟩ := hk; obtain ⟨rfl, _⟩ := hj; exact hx
      · rw [if_neg hj]; obtain ⟨rfl, _⟩ := hk; exact h.owns k j'
    · rw [if_neg hk]; exact h.owns k' j'
  · intro k' hk'
    rw [getO_setO]
    by_cases hk : k = k' ∧ k < S.owns.length
    · rw [if_pos hk]
      intro e
      have : (S.getO k).length = 0 := by simpa using congrArg List.length e
      exact h.lk k' hk' (by rw [← hk.1]; exact List.eq_nil_of_length_eq_zero this)
    · rw [if_neg hk]; exact h.lk k' hk'

/-- A row that no live owner holds is written, but not where it is held stable. -/
theorem Inv.setFree (h : Inv w0 G S a w) (b : Nat) {w' : World} (hb0 : w0.w.heap.size ≤ b) (hbox : ∀ i, G.ow b ≠ some (.box i))
    (hdead : ∀ k j t xs deep m, G.ow b = some (.own k j) → oget (S.getO k) j ≠ .own t xs deep m)
    (hos : w'.os = w.os) (htape : w'.tape = w.tape) (hout : w'.output = w.output) (hsz : w.heap.size ≤ w'.heap.size)
    (hoth : ∀ c, c < w.heap.size → c ≠ b → w'.heap[c]? = w.heap[c]?)
    (hS : ∀ o, G.S b o → w'.cell? ⟨b, o, none⟩ = w.cell? ⟨b, o, none⟩) : Inv w0 G S a w' := by
  have hm : Mv G G w w' := ⟨fun c o hs => ⟨hs, by
    by_cases hc : c = b
    · subst hc; exact hS o hs
    · exact World.cell?_of_block (w := w) (hoth c (h.sok c o hs).1 hc)⟩, fun k hk => ⟨hk, fun _ => rfl⟩, fun i hi => ⟨hi, rfl⟩⟩
  have hw0 := h.below.size
  refine ⟨h.below.trans ⟨hos, htape, hout, hsz, fun k hk => hoth k (by omega) (by omega)⟩, h.nodef, h.tsz, h.bsz, h.osz, fun x v hv => (h.tmps x v hv).move hm, ?_, ?_, ?_, ?_, h.lk, h.lb, h.sfr⟩
  · intro x y hx; exact ⟨(h.olt x y hx).1, Nat.lt_of_lt_of_le (h.olt x y hx).2 hsz⟩
  · intro x o hs; exact ⟨Nat.lt_of_lt_of_le (h.sok x o hs).1 hsz, (h.sok x o hs).2⟩
  · intro x cs hcs
    obtain ⟨ho', vs'', E', hh', hc'⟩ := h.box x cs hcs
    exact ⟨ho', vs'', E', (hoth _ (h.olt _ _ ho').2 fun e => hbox x (e ▸ ho')).trans hh', hc'.move hm⟩
  · intro k j
    refine (h.owns k j).same rfl hm.s fun t xs deep m hx => ⟨fun c hc' => ⟨hc', hoth c (h.olt _ _ hc').2 fun e => ?_⟩, fun _ _ _ _ _ o hs => .inl hs⟩
    exact hdead k j t xs deep m (e ▸ hc') hx

/-- Rows change hands: none that a live owner but (k, j) holds. -/
theorem Inv.reown (h : Inv w0 G S a w) (P : Nat → Prop) [DecidablePred P] (k j : Nat)
    (hP : ∀ c, P c → w0.w.heap.size ≤ c ∧ c < w.heap.size ∧ (∀ i, G.ow c ≠ some (.box i)) ∧ ∀ k' j' t xs deep m, G.ow c = some (.own k' j') → (k', j') ≠ (k, j) → oget (S.getO k') j' ≠ .own t xs deep m) :
    Inv w0 { G with ow := fun c => if P c then some (.own k j) else G.ow c } S a w := by
  let G' : Gh := { G with ow := fun c => if P c then some (.own k j) else G.ow c }
  have hm : Mv G G' w w := ⟨fun b o hs => ⟨hs, rfl⟩, fun k hk => ⟨hk, fun _ => rfl⟩, fun x hx => ⟨hx, rfl⟩⟩
  have how : ∀ c, G'.ow c = if P c then some (.own k j) else G.ow c := fun _ => rfl
  refine ⟨h.below, h.nodef, h.tsz, h.bsz, h.osz, fun x v hv => (h.tmps x v hv).move hm, ?_, ?_, ?_, ?_, h.lk, h.lb, h.sfr⟩
  · intro x y hx
    by_cases hp : P x
    · exact ⟨(hP x hp).1, (hP x hp).2.1⟩
    · rw [how, if_neg hp] at hx; exact h.olt x y hx
  · intro x o hs
    refine ⟨(h.sok x o hs).1, fun i => ?_⟩
    rw [how]
    split
    · simp
    · exact (h.sok x o hs).2 i
  · intro x cs hcs
    obtain ⟨ho', vs'', E', hh', hc'⟩ := h.box x cs hcs
    refine ⟨?_, vs'', E', hh', hc'.move hm⟩
    rw [how, if_neg fun hp => (hP _ hp).2.2.1 x ho']
    exact ho'
  · intro k' j'
    refine (h.owns k' j').same rfl hm.s fun t xs deep m hx => ⟨fun c hc' => ⟨?_, rfl⟩, fun _ _ _ _ _ o hs => .inl hs⟩
    show G'.ow c = _
    rw [how]
    split
    · rename_i hp
      by_cases hk : (k', j') = (k, j)
      · cases hk; rfl
      · exact absurd hx ((hP c hp).2.2.2 k' j' t xs deep m hc' hk)
    · exact hc'

/-- New owned lists under a key that is not in use. -/
theorem Inv.newOwnsX (h : Inv w0 G S a w) (d : Nat) (os : List O) (ov : Nat → Value) (lab : Nat → Option Nat) (hd : S.getO d = []) (hdl : d < S.tmps.length) (hne : os ≠ [])
    (hlab : ∀ c j, lab c = some j → w0.w.heap.size ≤ c ∧ c < w.heap.size ∧ (∀ i, G.ow c ≠ some (.box i)) ∧ ∀ k' j' t xs deep m, G.ow c = some (.own k' j') → oget (S.getO k') j' ≠ .own t xs deep m)
    (hos : ∀ j, match oget os j with
      | .dead => True
      | .own t xs deep m => OwT w G.S deep m t xs (ov j) (fun c => lab c = some j)
      | .ro t xs => Rep w G.S (.list t xs) (ov j)) :
    ∃ G', Inv w0 G' (S.setO d os) a w ∧ Mv G G' w w ∧ G'.lk d ∧ (∀ j, G'.ov d j = ov j) ∧ G'.bk = G.bk ∧ G'.S = G.S ∧ (∀ c, G'.ow c = match lab c with | some j => some (.own d j) | none => G.ow c) := by
  have hnl : ¬ G.lk d := fun hl => h.lk d hl hd
  let G' : Gh := { G with ov := fun k j => if k = d then ov j else G.ov k j, ow := fun c => match lab c with | some j => some (.own d j) | none => G.ow c, lk := fun k => k = d ∨ G.lk k }
  have hm : Mv G G' w w := ⟨fun b o hs => ⟨hs, rfl⟩, fun k hk => ⟨.inr hk, fun j => by
    show (if k = d then ov j else G.ov k j) = _
    rw [if_neg (fun e : k = d => hnl (e ▸ hk))]⟩, fun x hx => ⟨hx, rfl⟩⟩
  have how : ∀ c, G'.ow c = match lab c with | some j => some (.own d j) | none => G.ow c := fun _ => rfl
  refine ⟨G', ⟨h.below, h.nodef, h.tsz, by simp [St.setO, h.bsz], by simp [St.setO, h.osz], fun x v hv => (h.tmps x v hv).move hm, ?_, ?_, ?_, ?_, ?_, h.lb, h.sfr⟩, hm, .inl rfl, fun j => if_pos rfl, rfl, rfl, fun _ => rfl⟩
  · intro x y hx
    rw [how] at hx
    cases hl : lab x with
    | some j => exact ⟨(hlab x j hl).1, (hlab x j hl).2.1⟩
    | none => rw [hl] at hx; exact h.olt x y hx
  · intro x o hs
    refine ⟨(h.sok x o hs).1, fun i => ?_⟩
    rw [how]
    cases hl : lab x with
    | some j => simp
    | none => exact (h.sok x o hs).2 i
  · intro x cs hcs
    obtain ⟨ho', vs'', E', hh', hc'⟩ := h.box x cs hcs
    refine ⟨?_, vs'', E', hh', hc'.move hm⟩
    rw [how]
    cases hl : lab (G'.bk x) with
    | some j => exact absurd ho' ((hlab _ j hl).2.2.1 x)
    | none => exact ho'
  · intro k' j'
    rw [getO_setO]
    by_cases hk : d = k' ∧ d < S.owns.length
    · rw [if_pos hk]
      obtain ⟨rfl, _⟩ := hk
      have := hos j'
      revert this
      generalize oget os j' = x
      intro hx
      cases x with
      | dead => trivial
      | own t xs deep m =>
        show OwT w G.S deep m t xs (if d = d then ov j' else G.ov d j') (fpOf G' d j')
        rw [if_pos rfl]
        refine OwT.move hx (fun b o hs => ⟨hs, rfl⟩) (fun c hc => ⟨?_, rfl⟩) (fun _ _ _ _ _ o hs => .inl hs)
        show G'.ow c = _
        rw [how, hc]
      | ro t xs =>
        show Rep w G.S (.list t xs) (if d = d then ov j' else G.ov d j')
        rw [if_pos rfl]
        exact hx
    · rw [if_neg hk]
      have hkd : k' ≠ d := fun e => hk ⟨e.symm, by rw [h.osz]; exact hdl⟩
      refine (h.owns k' j').same (by show (if k' = d then ov j' else G.ov k' j') = _; rw [if_neg hkd]) hm.s fun t xs deep m hx => ⟨fun c hc' => ⟨?_, rfl⟩, fun _ _ _ _ _ o hs => .inl hs⟩
      show G'.ow c = _
      rw [how]
      cases hl : lab c with
      | some j => exact absurd hx ((hlab c j hl).2.2.2 k' j' t xs deep m hc')
      | none => exact hc'
  · intro k' hk'
    rw [getO_setO]
    by_cases hk : d = k' ∧ d < S.owns.length
    · rw [if_pos hk]; exact hne
    · rw [if_neg hk]
      rcases hk' with hk' | hk'
      · exact absurd ⟨hk'.symm, by rw [h.osz]; exact hdl⟩ hk
      · exact h.lk k' hk'
theorem Inv.newOwns (h : Inv w0 G S a w) (d : Nat) (os : List O) (ov : Nat → Value) (lab : Nat → Option Nat) (hd : S.getO d = []) (hdl : d < S.tmps.length) (hne : os ≠ [])
    (hlab : ∀ c j, lab c = some j → w0.w.heap.size ≤ c ∧ c < w.heap.size ∧ (∀ i, G.ow c ≠ some (.box i)) ∧ ∀ k' j' t xs deep m, G.ow c = some (.own k' j') → oget (S.getO k') j' ≠ .own t xs deep m)
    (hos : ∀ j, match oget os j with
      | .dead => True
      | .own t xs deep m => OwT w G.S deep m t xs (ov j) (fun c => lab c = some j)
      | .ro t xs => Rep w G.S (.list t xs) (ov j)) :
    ∃ G', Inv w0 G' (S.setO d os) a w ∧ Mv G G' w w ∧ G'.lk d ∧ (∀ j, G'.ov d j = ov j) := by
  obtain ⟨G', h1, h2, h3, h4, _⟩ := h.newOwnsX d os ov lab hd hdl hne hlab hos
  exact ⟨G', h1, h2, h3, h4⟩
end steps
end Go.Abs
