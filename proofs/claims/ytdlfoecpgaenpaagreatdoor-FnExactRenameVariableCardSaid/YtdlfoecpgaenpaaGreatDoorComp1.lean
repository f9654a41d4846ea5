/- Plain laws: notebooks compiled: CompileAll alike on both sides. -/
import Derived.Test.YtdlfoecpgaenpaaGreatDoorData1
set_option linter.unusedSimpArgs false
set_option linter.unusedVariables false
namespace Go.Proofs.YtdlfoecpgaenpaaGreatDoor
open Go.Abs Go.Proofs
noncomputable def errOf (w : Int) : Nat -> List Str -> Int
 | _, [] => -1
 | i, p :: r => if ((rowOf w p).isNone || decide (12 <= i)) = true then ((i + 1 : Nat) : Int) else errOf w (i + 1) r
theorem errOf_drop (w : Int) {ps : List Str} {i : Nat} {p : Str} (h : ps[i]? = some p) : errOf w i (ps.drop i) = if ((rowOf w p).isNone || decide (12 <= i)) = true then ((i + 1 : Nat) : Int) else errOf w (i + 1) (ps.drop (i + 1)) := by
 obtain ⟨hi, rfl⟩ := List.getElem?_eq_some_iff.1 h
 rw [List.drop_eq_getElem_cons hi]
 rfl
theorem iErr_ok (a : Str) (hl : a.length <= 120) {p0 : Str} {ps : List Str} (hp : Go.Lib.split a [59, 32] = p0 :: ps) (hno : (dataOf p0 ps).2 = false) :
  iDataError a = some (bif colsB (Go.Lib.split p0 [32]) then errOf ((Go.Lib.split p0 [32]).length : Int) 0 ps else 0) := by
 obtain ⟨s1, s2⟩ := split_len a [59, 32]
 rw [hp] at s1 s2
 have h0 := s2 p0 (by simp)
 obtain ⟨c1, c2⟩ := split_len p0 [32]
 unfold iDataError
 have e1 : libSplit a [59, 32] = some (p0 :: ps) := by
  unfold libSplit
  rw [if_pos ⟨by omega, by simp⟩, hp]
 have e2 : iSplitByte p0 32 = some (Go.Lib.split p0 [32]) := iSplit_ok p0 32 (by omega)
 have i0 : idx (p0 :: ps) 0 = some p0 := rfl
 have i1 : (p0 :: ps)[0]? = some p0 := rfl
 have e3 : iParseData a = some ((dataOf p0 ps).1, false) := by rw [iData_ok a hl hp, <- hno]
 have e4 := iCols_ok (Go.Lib.split p0 [32]) (by omega) (fun x hx => by have := c2 x hx; omega)
 simp only [e3, cond_false, e1, i0, i1, e2, e4, cut_tail, Option.bind_some]
 generalize Go.Lib.split p0 [32] = cols at c1 c2
 cases colsB cols with
 | false => rfl
 | true =>
  simp only [Bool.not_true, cond_false, cond_true]
  refine of_ex (list_run (fun (_ : Unit) (i : Nat) => ((cols, ps, (ps.length : Int), (i : Int)) : (List Str) × (List Str) × Int × Int)) ps (fun i _ => errOf (cols.length : Int) i (ps.drop i) = errOf (cols.length : Int) 0 ps) _ (fun i p out hx hI => ?_) (fun out hI => ?_) () rfl)
  ·have hpl := s2 p (List.mem_cons_of_mem _ (List.mem_of_getElem? hx))
   obtain ⟨l, ok, e, hr⟩ := rowOf_I (cols.length : Int) p (by omega)
   simp only [List.length_cons] at s1
   have hd := errOf_drop (cols.length : Int) hx
   simp only [cnt_in hx, cond_true, idx_nat, hx, Option.bind_some, e, cnt_up hx (by omega)]
   rcases hr with ⟨rfl, hr⟩ | ⟨rfl, hr⟩
   ·rw [hr] at hd
    exact .inr ⟨_, rfl, by rw [<- hI, hd]; rfl⟩
   ·rw [hr] at hd
    by_cases h12 : 12 <= i
    ·have d : decide ((i : Int) >= 12) = true := by simp; omega
     rw [d]
     refine .inr ⟨_, rfl, ?_⟩
     rw [<- hI, hd, decide_eq_true h12]; rfl
    ·have d : decide ((i : Int) >= 12) = false := by simp; omega
     rw [d]
     refine .inl ⟨(), rfl, ?_⟩
     rw [<- hI, hd, decide_eq_false h12]; rfl
  ·refine ⟨_, by simp only [cnt_out, cond_false]; rfl, ?_⟩
   rw [<- hI, List.drop_length]; rfl
theorem sErr_ok (a : Str) (hl : a.length <= 120) {p0 : Str} {ps : List Str} (hp : Go.Lib.split a [59, 32] = p0 :: ps) :
  sDataError a = some (bif colsB (Go.Lib.split p0 [32]) then errOf ((Go.Lib.split p0 [32]).length : Int) 0 ps else 0) := by
 obtain ⟨s1, s2⟩ := split_len a [59, 32]
 rw [hp] at s1 s2
 have h0 := s2 p0 (by simp)
 obtain ⟨c1, c2⟩ := split_len p0 [32]
 unfold sDataError
 have e1 : sL18Parts a = some (p0 :: ps) := by rw [sParts_ok a (by omega), hp]
 have e2 : sSplitByte p0 32 = some (Go.Lib.split p0 [32]) := sSplit_ok p0 32 (by omega)
 have i0 : idx (p0 :: ps) 0 = some p0 := rfl
 have i1 : (p0 :: ps)[0]? = some p0 := rfl
 have e4 := sCols_ok (Go.Lib.split p0 [32]) (by omega) (fun x hx => by have := c2 x hx; omega)
 simp only [e1, i0, i1, e2, e4, Option.bind_some]
 generalize Go.Lib.split p0 [32] = cols at c1 c2
 cases colsB cols with
 | false => rfl
 | true =>
  simp only [Bool.not_true, cond_false, cond_true]
  refine of_ex (list_run (fun (_ : Unit) (i : Nat) => ((p0 :: ps, cols, ((i + 1 : Nat) : Int)) : (List Str) × (List Str) × Int)) ps (fun i _ => errOf (cols.length : Int) i (ps.drop i) = errOf (cols.length : Int) 0 ps) _ (fun i p out hx hI => ?_) (fun out hI => ?_) () rfl)
  ·have hpl := s2 p (List.mem_cons_of_mem _ (List.mem_of_getElem? hx))
   obtain ⟨l, ok, e, hr⟩ := rowOf_S (cols.length : Int) p (by omega)
   have hpi := (List.getElem?_eq_some_iff.1 hx).1
   simp only [List.length_cons] at s1
   have hd := errOf_drop (cols.length : Int) hx
   have d1 : decide (((i + 1 : Nat) : Int) < ((p0 :: ps).length : Int)) = true := by simp; omega
   have hx' : (p0 :: ps)[i + 1]? = some p := by simpa using hx
   have hw : w64 (((i + 1 : Nat) : Int) + 1) = ((i + 1 + 1 : Nat) : Int) := by rw [w64_id (by omega) (by omega)]; omega
   simp only [d1, cond_true, idx_nat, hx', Option.bind_some, Int.toNat_natCast, e, hw]
   rcases hr with ⟨rfl, hr⟩ | ⟨rfl, hr⟩
   ·rw [hr] at hd
    exact .inr ⟨_, rfl, by rw [<- hI, hd]; rfl⟩
   ·rw [hr] at hd
    by_cases h12 : 12 <= i
    ·have d : decide (((i + 1 : Nat) : Int) > 12) = true := by simp; omega
     rw [d]
     refine .inr ⟨_, rfl, ?_⟩
     rw [<- hI, hd, decide_eq_true h12]; rfl
    ·have d : decide (((i + 1 : Nat) : Int) > 12) = false := by simp; omega
     rw [d]
     refine .inl ⟨(), rfl, ?_⟩
     rw [<- hI, hd, decide_eq_false h12]; rfl
  ·have d1 : decide (((ps.length + 1 : Nat) : Int) < ((p0 :: ps).length : Int)) = false := by simp
   refine ⟨_, by simp only [d1, cond_false]; rfl, ?_⟩
   rw [<- hI, List.drop_length]; rfl
def withFrom (c : Int) (i : Nat) (r : GRow) : GRow := ⟨r.cells, [⟨c, (i : Int)⟩]⟩
theorem set_run {ρ X : Type} {g : X -> Option (X ⊕ ρ)} (pk : List GRow -> Nat -> X) (c : Int) (rows : List GRow) (r : ρ)
  (hs : ∀ i x out, out.length = rows.length -> i < rows.length -> out[i]? = some x -> g (pk out i) = some (.inl (pk (out.set i (withFrom c i x)) (i + 1))))
  (hf : g (pk (mapFrom (withFrom c) 0 rows) rows.length) = some (.inr r)) : loopD g (pk rows 0) = some r := by
 have key : ∀ (k i : Nat) (a b : List GRow), rows.length = i + k -> a.length = i -> b.length = k -> a ++ mapFrom (withFrom c) i b = mapFrom (withFrom c) 0 rows -> loopD g (pk (a ++ b) i) = some r := by
  intro k
  induction k with
  | zero =>
   intro i a b hi ha hb he
   have : b = [] := List.length_eq_zero_iff.1 hb
   subst this
   rw [mapFrom, List.append_nil] at he
   rw [List.append_nil, he, loopD_eq, show i = rows.length by omega, hf]
  | succ k ih =>
   intro i a b hi ha hb he
   cases b with
   | nil => simp at hb
   | cons x b =>
    have hx : (a ++ x :: b)[i]? = some x := by rw [<- ha]; simp
    rw [loopD_eq, hs i x _ (by simp at hb ⊢; omega) (by omega) hx]
    simp only
    have hset : (a ++ x :: b).set i (withFrom c i x) = (a ++ [withFrom c i x]) ++ b := by
     rw [List.set_append_right _ _ (by omega), ha, Nat.sub_self]
     simp
    rw [hset]
    refine ih (i + 1) (a ++ [withFrom c i x]) b (by omega) (by simp [ha]) (by simpa using hb) ?_
    rw [List.append_assoc]
    exact he
 exact key rows.length 0 [] rows (by omega) rfl rfl rfl
theorem nest_end {X ρ : Type} {f : X -> Option (X ⊕ ρ)} {x0 : X} {q : Option ρ} {v : ρ} (h : f x0 = q.bind fun r => some (.inr r)) (hq : q = some v) : loopD f x0 = some v := by
 rw [loopD_eq, h, hq]; rfl
theorem iRowCopy (r : GRow) (h : r.cells.length <= 1048576) (h2 : r.orig.length <= 1048576) : iCopyRow r = some r := by
 unfold iCopyRow
 rw [gdp (by omega), Option.bind_some, gdp (by omega), Option.bind_some]
 cases r; rfl
theorem sRowCopy (r : GRow) (h : r.cells.length <= 1048576) (h2 : r.orig.length <= 1048576) : sL3Row r = some r := by
 unfold sL3Row
 rw [gdp (by omega), Option.bind_some, gdp (by omega), Option.bind_some]
 cases r; rfl
theorem reVal_id (v : GVal) : reVal v = v := by cases v; rfl
structure TabP (cols : List Str) (rows : List GRow) : Prop where
 cl : cols.length <= 122
 ct : ∀ x, x ∈ cols -> x.length <= 120
 rl : rows.length <= 122
 rr : ∀ r, r ∈ rows -> r.orig = [] /\ r.cells.length <= 122
theorem iCopyTab (cols : List Str) (rows : List GRow) (h : TabP cols rows) : iCopyValue ⟨5, 0, 0, [], [], cols, rows⟩ = some ⟨5, 0, 0, [], [], cols, rows⟩ := by
 have hc := h.cl
 have hr := h.rl
 unfold iCopyValue
 obtain ⟨m, hm⟩ : ∃ m, siz (⟨5, 0, 0, [], [], cols, rows⟩ : GVal) + 1 = m + 1 + 1 := ⟨siz (⟨5, 0, 0, [], [], cols, rows⟩ : GVal) - 1, by
  have : 1 <= siz (⟨5, 0, 0, [], [], cols, rows⟩ : GVal) := by simp only [siz]; rw [GVal.mk.sizeOf_spec]; omega
  omega⟩
 rw [hm]
 show iCopyValueB (iCopyValueG (m + 1)).1 (iCopyValueG (m + 1)).2 _ = _
 unfold iCopyValueB
 have h0 : (iCopyValueG (m + 1)).2 [] = some [] := by
  show iCopyValuesB (iCopyValueG m).1 (iCopyValueG m).2 [] = _
  unfold iCopyValuesB
  rw [loopD_eq]; rfl
 have hg : gd (0 + cols.length) = some () := gdp (by omega)
 simp only [h0, hg, Option.bind_some]
 refine map_run (fun (out : List GRow) (i : Nat) => ((0, 0, 0, [], [], [], [], 5, 0, 0, [], [], [] ++ cols, out, rows, (rows.length : Int), (i : Int)) : Int × Int × Int × Str × (List GVal) × (List Str) × (List GRow) × Int × Int × Int × Str × (List GVal) × (List Str) × (List GRow) × (List GRow) × Int × Int)) rows (fun _ r => r) _ (fun i r out hx ho => ?_) ?_
 ·obtain ⟨q1, q2⟩ := h.rr r (List.mem_of_getElem? hx)
  have hi := (List.getElem?_eq_some_iff.1 hx).1
  simp only [cnt_in hx, cond_true, idx_nat, hx, Option.bind_some, iRowCopy r (by omega) (by rw [q1]; simp), cnt_up hx (by omega)]
  rw [gdp (by simp; omega)]
  rfl
 ·simp only [cnt_out, cond_false, mapFrom_id]
  rfl
theorem sCopyTab (cols : List Str) (rows : List GRow) (h : TabP cols rows) : sL3Copy ⟨5, 0, 0, [], [], cols, rows⟩ = some ⟨5, 0, 0, [], [], cols, rows⟩ := by
 have hc := h.cl
 have hr := h.rl
 show sL3CopyB (sL3CopyG _) _ = _
 unfold sL3CopyB
 have hg : gd (0 + cols.length) = some () := gdp (by omega)
 simp only [hg, Option.bind_some]
 refine nest_end (by simp only [List.length_nil, Int.ofNat_zero, Int.lt_irrefl, decide_false, cond_false]; rfl) ?_
 refine map_run (fun (out : List GRow) (i : Nat) => ((5, 0, 0, [], [], cols, rows, 0, 0, 0, [], [], [], [], 5, 0, 0, [], [], [] ++ cols, out, (i : Int)) : Int × Int × Int × Str × (List GVal) × (List Str) × (List GRow) × Int × Int × Int × Str × (List GVal) × (List Str) × (List GRow) × Int × Int × Int × Str × (List GVal) × (List Str) × (List GRow) × Int)) rows (fun _ r => r) _ (fun i r out hx ho => ?_) ?_
 ·obtain ⟨q1, q2⟩ := h.rr r (List.mem_of_getElem? hx)
  have hi := (List.getElem?_eq_some_iff.1 hx).1
  simp only [cnt_in hx, cond_true, idx_nat, hx, Option.bind_some, sRowCopy r (by omega) (by rw [q1]; simp), cnt_up hx (by omega)]
  rw [gdp (by simp; omega)]
  rfl
 ·simp only [cnt_out, cond_false, mapFrom_id]
  rfl
theorem iSource_ok (c : Int) (hc : 0 <= c) (cols : List Str) (rows : List GRow) (h : TabP cols rows) (hv : tabB cols rows = true) : iSourceTable c ⟨5, 0, 0, [], [], cols, rows⟩ = some ⟨5, 0, 0, [], [], cols, mapFrom (withFrom c) 0 rows⟩ := by
 have hcl := h.cl
 have hrl := h.rl
 have h1 := iValidTab_ok cols rows (by omega) h.ct (fun r hr => by have := h.rr r hr; exact ⟨this.1, by omega⟩)
 have d : decide (c < 0) = false := by simp; omega
 unfold iSourceTable
 simp only [reVal_id, h1, hv, iCopyTab cols rows h, d, Option.bind_some, Bool.not_true, cond_false]
 refine (set_run (fun (out : List GRow) (i : Nat) => ((c, 0, 0, 0, [], [], [], [], 5, 0, 0, [], [], cols, out, (rows.length : Int), (i : Int)) : Int × Int × Int × Int × Str × (List GVal) × (List Str) × (List GRow) × Int × Int × Int × Str × (List GVal) × (List Str) × (List GRow) × Int × Int)) c rows _ (fun i x out hl hi hx => ?_) ?_)
 ·have d1 : decide ((i : Int) < (rows.length : Int)) = true := by simp; omega
  have hw : w64 ((i : Int) + 1) = ((i + 1 : Nat) : Int) := by rw [w64_id (by omega) (by omega)]; omega
  simp only [d1, cond_true, idx_nat, hx, Option.bind_some, Int.toNat_natCast, hw]
  rfl
 ·simp only [cnt_out, cond_false]
theorem sSource_ok (c : Int) (hc : 0 <= c) (cols : List Str) (rows : List GRow) (h : TabP cols rows) (hv : tabB cols rows = true) : sSourceTable c ⟨5, 0, 0, [], [], cols, rows⟩ = some ⟨5, 0, 0, [], [], cols, mapFrom (withFrom c) 0 rows⟩ := by
 have hcl := h.cl
 have hrl := h.rl
 have h1 := sValidTab_ok cols rows (by omega) h.ct (fun r hr => by have := h.rr r hr; exact ⟨this.1, by omega⟩)
 have d : decide (c < 0) = false := by simp; omega
 unfold sSourceTable
 simp only [reVal_id, h1, hv, sCopyTab cols rows h, d, Option.bind_some, Bool.not_true, cond_false]
 refine (set_run (fun (out : List GRow) (i : Nat) => ((c, 0, 0, 0, [], [], [], [], 5, 0, 0, [], [], cols, out, (i : Int)) : Int × Int × Int × Int × Str × (List GVal) × (List Str) × (List GRow) × Int × Int × Int × Str × (List GVal) × (List Str) × (List GRow) × Int)) c rows _ (fun i x out hl hi hx => ?_) ?_)
 ·have d1 : decide ((i : Int) < (out.length : Int)) = true := by simp; omega
  have hw : w64 ((i : Int) + 1) = ((i + 1 : Nat) : Int) := by rw [w64_id (by omega) (by omega)]; omega
  simp only [d1, cond_true, idx_nat, hx, Option.bind_some, Int.toNat_natCast, hw]
  rfl
 ·have d1 : decide ((rows.length : Int) < ((mapFrom (withFrom c) 0 rows).length : Int)) = false := by rw [mapFrom_len]; simp
  simp only [d1, cond_false]
theorem printable_ok (a : Str) (h : a.length <= 1048576) : ∃ v, iIsPrintable a = some v /\ sIsPrintable a = some v /\ (v = true -> a.length <= 120) := by
 have e : iIsPrintable a = sIsPrintable a := rfl
 rw [e]
 have key : ∃ v, sIsPrintable a = some v /\ (v = true -> a.length <= 120) := by
  unfold sIsPrintable
  refine list_run (fun (_ : Unit) (i : Nat) => ((a, (i : Int)) : Str × Int)) a (fun _ _ => True) _ (fun i x s hx hI => ?_) (fun s hI => ?_) () trivial
  ·simp only [cnt_in hx, cond_true, idx_nat, hx, Option.bind_some, cnt_up hx (by omega)]
   cases decide ((x.toNat : Int) < 32) with
   | true => exact .inr ⟨false, rfl, fun h => (by cases h)⟩
   | false =>
    cases decide ((x.toNat : Int) > 126) with
    | true => exact .inr ⟨false, rfl, fun h => (by cases h)⟩
    | false => exact .inl ⟨(), rfl, trivial⟩
  ·refine ⟨_, by simp only [cnt_out, cond_false]; rfl, fun h => ?_⟩
   simp at h; omega
 obtain ⟨v, e1, h1⟩ := key
 exact ⟨v, e1, e1, h1⟩
structure CellP (c : GCell) : Prop where
 id0 : 1 <= c.id
 id9 : c.id <= 999
 v0 : 1 <= c.version
 v9 : c.version <= 999
 code : c.code.length <= 120
 kind : c.kind = 1 \/ c.kind = 2 \/ c.kind = 3 \/ c.kind = 4
 name : c.name.length <= 8
theorem in_true {a b c : Int} (h : (decide (b <= a) && decide (a <= c)) = true) : b <= a /\ a <= c := by simpa using h
theorem cell_alike (c : GCell) (hn : c.name.length <= 1048576) (hc : c.code.length <= 1048576) : ∃ b, iIsValidCell c = some b /\ sIsValidCell c = some b /\ (b = true -> CellP c) := by
 obtain ⟨v, p1, p2, p3⟩ := printable_ok c.code hc
 obtain ⟨u, q1⟩ := validName_ok c.name (by omega)
 have q2 : sIsValidName c.name = some u := by rw [<- vName_alike c.name (by omega), q1]
 have w1 : ∀ a b d : Int, sL1In a b d = iWithin a b d := fun a b d => (within_eq a b d).symm
 unfold iIsValidCell sIsValidCell
 simp only [w1, iWithin_eq, p1, p2, q1, q2, Option.bind_some]
 cases h1 : (decide (1 <= c.id) && decide (c.id <= 999)) with
 | false => exact ⟨false, rfl, rfl, fun h => (by cases h)⟩
 | true =>
  cases h2 : (decide (1 <= c.version) && decide (c.version <= 999)) with
  | false => exact ⟨false, rfl, rfl, fun h => (by cases h)⟩
  | true =>
   cases v with
   | false => exact ⟨false, rfl, rfl, fun h => (by cases h)⟩
   | true =>
    have g1 := in_true h1
    have g2 := in_true h2
    have g3 := p3 rfl
    simp only [Bool.not_true, cond_false]
    have no : ∃ b : Bool, (some false : Option Bool) = some b /\ (some false : Option Bool) = some b /\ (b = true -> CellP c) := ⟨false, rfl, rfl, fun h => (by cases h)⟩
    have named : ∀ z : Option Bool, (∃ b, z = some b) -> (c.kind = 1 \/ c.kind = 2 \/ c.kind = 3 \/ c.kind = 4) -> ∃ b : Bool, (bif u then z else some false) = some b /\ (bif u then z else some false) = some b /\ (b = true -> CellP c) := by
     intro z hz hk
     obtain ⟨b, rfl⟩ := hz
     cases u with
     | false => exact no
     | true => exact ⟨b, rfl, rfl, fun _ => ⟨g1.1, g1.2, g2.1, g2.2, g3, hk, valid_short c.name (by omega) q1⟩⟩
    cases k1 : (c.kind == 1) with
    | true =>
     simp only [cond_true]
     have hk : c.kind = 1 := eq_of_beq k1
     cases hnm : (c.name == []) with
     | false => exact no
     | true => exact ⟨_, rfl, rfl, fun _ => ⟨g1.1, g1.2, g2.1, g2.2, g3, .inl hk, by rw [eq_of_beq hnm]; simp⟩⟩
    | false =>
     simp only [cond_false]
     cases k2 : (c.kind == 2) with
     | true => exact named _ ⟨_, rfl⟩ (.inr (.inl (eq_of_beq k2)))
     | false =>
      simp only [cond_false]
      cases k4 : (c.kind == 4) with
      | true => exact named _ ⟨_, rfl⟩ (.inr (.inr (.inr (eq_of_beq k4))))
      | false =>
       simp only [cond_false]
       cases k3 : (c.kind == 3) with
       | true =>
        refine named _ ?_ (.inr (.inr (.inl (eq_of_beq k3))))
        cases (c.code == []) <;> exact ⟨_, rfl⟩
       | false => exact no
structure PartP (p : GPart) : Prop where
 expr : p.kind = 2 -> ValidX p.expr /\ wtE p.expr <= 40
 name : p.name.length <= 8
theorem rePart_id (p : GPart) : rePart p = p := by
 unfold rePart
 rw [reExpr_eq, reVal_id]
theorem compile_cell (c : GCell) (hv : iIsValidCell c = some true) (hs : sIsValidCell c = some true) (hp : CellP c) : ∃ p, iCompileCell c = some p /\ sCompileCell c = some p /\ PartP p := by
 have ne : ∀ (k : Int) (n : Str) (e : GExpr) (v : GVal) (a : Int), ¬ k = 2 -> n.length <= 8 -> PartP ⟨k, n, e, v, a⟩ := fun k n e v a hk hn => ⟨fun h => absurd h hk, hn⟩
 unfold iCompileCell sCompileCell
 simp only [hv, hs, Option.bind_some, Bool.not_true, cond_false, iNumberValue, sNumberValue, iErrorValue, sErrorValue, reVal_id, reExpr_eq]
 rcases hp.kind with k | k | k | k
 ·rw [k]
  exact ⟨_, rfl, rfl, ne _ _ _ _ _ (by decide) (by simp)⟩
 ·rw [k]
  obtain ⟨e, p, h1, h2, h3⟩ := parse_alike c.code
  simp only [h1, h2, Option.bind_some]
  by_cases hp0 : p >= 0
  ·rw [decide_eq_true hp0]
   exact ⟨_, rfl, rfl, ne _ _ _ _ _ (by decide) hp.name⟩
  ·rw [decide_eq_false hp0]
   exact ⟨_, rfl, rfl, ⟨fun _ => h3 (by omega), hp.name⟩⟩
 ·rw [k]
  exact ⟨_, rfl, rfl, ne _ _ _ _ _ (by decide) hp.name⟩
 ·rw [k]
  obtain ⟨v, ok, h1, h2, h3⟩ := data_alike c.code hp.code
  simp only [h1, h2, Option.bind_some]
  cases ok with
  | false =>
   obtain ⟨p0, ps, hps⟩ := parts_cons c.code
   have hno : (dataOf p0 ps).2 = false := by
    have := (iData_ok c.code hp.code hps).symm.trans h1
    injection this with this
    rw [this]
   rw [iErr_ok c.code hp.code hps hno, sErr_ok c.code hp.code hps]
   exact ⟨_, rfl, rfl, ne _ _ _ _ _ (by decide) hp.name⟩
  | true =>
   obtain ⟨cols, rows, rfl, ht, t1, t2, t3, t4⟩ := h3 rfl
   have hT : TabP cols rows := ⟨t1, t2, t3, t4⟩
   have hid := hp.id0
   rw [iSource_ok c.id (by omega) cols rows hT ht, sSource_ok c.id (by omega) cols rows hT ht]
   exact ⟨_, rfl, rfl, ne _ _ _ _ _ (by decide) hp.name⟩
def idxC (id : Int) : Nat -> List GCell -> Int
 | _, [] => -1
 | i, c :: r => if (c.id == id) = true then (i : Int) else idxC id (i + 1) r
theorem idxC_drop (id : Int) {cs : List GCell} {i : Nat} {c : GCell} (h : cs[i]? = some c) : idxC id i (cs.drop i) = if (c.id == id) = true then (i : Int) else idxC id (i + 1) (cs.drop (i + 1)) := by
 obtain ⟨hi, rfl⟩ := List.getElem?_eq_some_iff.1 h
 rw [List.drop_eq_getElem_cons hi]
 rfl
theorem iIdxC (cs : List GCell) (id : Int) (hl : cs.length <= 1048576) : iCellIndex ⟨cs⟩ id = some (idxC id 0 cs) := by
 unfold iCellIndex
 refine of_ex (list_run (fun (_ : Unit) (i : Nat) => ((id, cs, (cs.length : Int), (i : Int)) : Int × List GCell × Int × Int)) cs (fun i _ => idxC id i (cs.drop i) = idxC id 0 cs) _ (fun i c s hx hI => ?_) (fun s hI => ?_) () rfl)
 ·have hd := idxC_drop id hx
  simp only [cnt_in hx, cond_true, idx_nat, hx, Option.bind_some, cnt_up hx (by omega)]
  cases hc : (c.id == id) with
  | true => exact .inr ⟨_, rfl, by rw [<- hI, hd, hc]; rfl⟩
  | false => exact .inl ⟨(), rfl, by rw [<- hI, hd, hc]; rfl⟩
 ·exact ⟨_, by simp only [cnt_out, cond_false]; rfl, by rw [<- hI, List.drop_length]; rfl⟩
theorem sIdxC (cs : List GCell) (id : Int) (hl : cs.length <= 1048576) : sCellIndex ⟨cs⟩ id = some (idxC id 0 cs) := by
 unfold sCellIndex
 refine of_ex (list_run (fun (_ : Unit) (i : Nat) => ((id, cs, (i : Int)) : Int × List GCell × Int)) cs (fun i _ => idxC id i (cs.drop i) = idxC id 0 cs) _ (fun i c s hx hI => ?_) (fun s hI => ?_) () rfl)
 ·have hd := idxC_drop id hx
  simp only [cnt_in hx, cond_true, idx_nat, hx, Option.bind_some, cnt_up hx (by omega)]
  cases hc : (c.id == id) with
  | true => exact .inr ⟨_, rfl, by rw [<- hI, hd, hc]; rfl⟩
  | false => exact .inl ⟨(), rfl, by rw [<- hI, hd, hc]; rfl⟩
 ·exact ⟨_, by simp only [cnt_out, cond_false]; rfl, by rw [<- hI, List.drop_length]; rfl⟩
structure CellL (c : GCell) : Prop where
 name : c.name.length <= 1048576
 code : c.code.length <= 1048576
noncomputable def cellV (c : GCell) : Bool := (iIsValidCell c).getD false
theorem cellV_i (c : GCell) (h : CellL c) : iIsValidCell c = some (cellV c) := by
 obtain ⟨b, h1, _⟩ := cell_alike c h.name h.code
 unfold cellV
 rw [h1]; rfl
theorem cellV_s (c : GCell) (h : CellL c) : sIsValidCell c = some (cellV c) := by
 obtain ⟨b, h1, h2, _⟩ := cell_alike c h.name h.code
 unfold cellV
 rw [h1, h2]; rfl
theorem cellV_p (c : GCell) (h : CellL c) (hv : cellV c = true) : CellP c := by
 obtain ⟨b, h1, _, h3⟩ := cell_alike c h.name h.code
 refine h3 ?_
 unfold cellV at hv
 rw [h1] at hv
 exact hv
noncomputable def bookV (cs : List GCell) : Bool := allFrom (fun i c => cellV c && (idxC c.id 0 cs == (i : Int))) 0 cs && decide ((cs.length : Int) <= 8)
theorem iBook_ok (cs : List GCell) (hl : cs.length <= 1048576) (h : ∀ c, c ∈ cs -> CellL c) : iIsValidNotebook ⟨cs⟩ = some (bookV cs) := by
 unfold iIsValidNotebook bookV
 refine (all_run (fun i => ((cs, cs, (cs.length : Int), (i : Int)) : List GCell × List GCell × Int × Int)) cs (fun i c => cellV c && (idxC c.id 0 cs == (i : Int))) false (decide ((cs.length : Int) <= 8)) (fun i c hx => ?_) ?_).trans ?_
 ·simp only [cnt_in hx, cond_true, idx_nat, hx, Option.bind_some, cellV_i c (h c (List.mem_of_getElem? hx)), iIdxC cs c.id hl, bne, cnt_up hx (by omega)]
  cases cellV c <;> cases (idxC c.id 0 cs == (i : Int)) <;> rfl
 ·simp only [cnt_out, cond_false]
 ·cases allFrom (fun i c => cellV c && (idxC c.id 0 cs == (i : Int))) 0 cs <;> rfl
theorem sBook_ok (cs : List GCell) (hl : cs.length <= 1048576) (h : ∀ c, c ∈ cs -> CellL c) : sIsValidNotebook ⟨cs⟩ = some (bookV cs) := by
 unfold sIsValidNotebook bookV
 refine (all_run (fun i => ((cs, (i : Int)) : List GCell × Int)) cs (fun i c => cellV c && (idxC c.id 0 cs == (i : Int))) false (decide ((cs.length : Int) <= 8)) (fun i c hx => ?_) ?_).trans ?_
 ·simp only [cnt_in hx, cond_true, idx_nat, hx, Option.bind_some, cellV_s c (h c (List.mem_of_getElem? hx)), sIdxC cs c.id hl, bne, cnt_up hx (by omega)]
  cases cellV c <;> cases (idxC c.id 0 cs == (i : Int)) <;> rfl
 ·simp only [cnt_out, cond_false]
 ·cases allFrom (fun i c => cellV c && (idxC c.id 0 cs == (i : Int))) 0 cs <;> rfl
theorem allFrom_mem {α : Type} {p : Nat -> α -> Bool} : ∀ {i : Nat} {xs : List α}, allFrom p i xs = true -> ∀ x, x ∈ xs -> ∃ j, p j x = true
 | i, y :: r, h, x, hx => by
  have h : (p i y && allFrom p (i + 1) r) = true := h
  rw [Bool.and_eq_true] at h
  rcases List.mem_cons.1 hx with rfl | hx
  ·exact ⟨i, h.1⟩
  ·exact allFrom_mem h.2 x hx
theorem book_small {cs : List GCell} (h : ∀ c, c ∈ cs -> CellL c) (hv : bookV cs = true) : cs.length <= 8 /\ ∀ c, c ∈ cs -> cellV c = true /\ CellP c := by
 unfold bookV at hv
 rw [Bool.and_eq_true] at hv
 have h8 := of_decide_eq_true hv.2
 refine ⟨by omega, fun c hc => ?_⟩
 obtain ⟨j, hj⟩ := allFrom_mem hv.1 c hc
 rw [Bool.and_eq_true] at hj
 exact ⟨hj.1, cellV_p c (h c hc) hj.1⟩
theorem compile_alike (cs : List GCell) (hl : cs.length <= 1048576) (h : ∀ c, c ∈ cs -> CellL c) : ∃ ps, iCompileAll ⟨cs⟩ = some ps /\ sCompileAll ⟨cs⟩ = some ps /\ (∀ p, p ∈ ps -> PartP p) /\ (bookV cs = true -> ps.length = cs.length) /\ ps.length <= 8 := by
 unfold iCompileAll sCompileAll
 simp only [iBook_ok cs hl h, sBook_ok cs hl h, Option.bind_some]
 cases hv : bookV cs with
 | false => exact ⟨[], rfl, rfl, fun p hp => (by cases hp), fun h => (by cases h), by simp⟩
 | true =>
  obtain ⟨h8, hcv⟩ := book_small h hv
  simp only [Bool.not_true, cond_false]
  have pt : ∀ c, c ∈ cs -> ∃ p, iCompileCell c = some p /\ sCompileCell c = some p /\ PartP p := fun c hc => by
   obtain ⟨q1, q2⟩ := hcv c hc
   exact compile_cell c (by rw [cellV_i c (h c hc), q1]) (by rw [cellV_s c (h c hc), q1]) q2
  have key := two_run (ρ := List GPart) (f := fun (x2 : (List GPart) × (List GCell) × Int × Int) =>
   bif (decide (x2.2.2.2 < x2.2.2.1)) then
    (idx x2.2.1 x2.2.2.2).bind fun e3 =>
    (iCompileCell e3).bind fun r4 =>
    (gd (x2.1.length + [rePart r4].length)).bind fun _ =>
    some (.inl (x2.1 ++ [rePart r4], x2.2.1, x2.2.2.1, w64 (x2.2.2.2 + 1)))
   else
    some (.inr (x2.1))) (g := fun (x2 : (List GCell) × (List GPart) × Int) =>
   bif (decide (x2.2.2 < (x2.1.length : Int))) then
    (idx x2.1 x2.2.2).bind fun e3 =>
    (sCompileCell e3).bind fun r4 =>
    (gd (x2.2.1.length + [rePart r4].length)).bind fun _ =>
    some (.inl (x2.1, x2.2.1 ++ [rePart r4], w64 (x2.2.2 + 1)))
   else
    some (.inr (x2.2.1))) (fun (out : List GPart) (i : Nat) => ((out, cs, (cs.length : Int), (i : Int)) : (List GPart) × (List GCell) × Int × Int)) (fun (out : List GPart) (i : Nat) => ((cs, out, (i : Int)) : (List GCell) × (List GPart) × Int)) cs (fun i out => out.length = i /\ ∀ p, p ∈ out -> PartP p) (fun ps => ps.length = cs.length /\ ∀ p, p ∈ ps -> PartP p) (fun i c out hx hI => .inl ?_) (fun out hI => ⟨out, by simp only [cnt_out, cond_false], by simp only [cnt_out, cond_false], hI⟩) [] ⟨rfl, fun p hp => (by cases hp)⟩
  ·obtain ⟨ps, e1, e2, r1, r2⟩ := key
   exact ⟨ps, e1, e2, r2, fun _ => r1, by omega⟩
  ·obtain ⟨p, c1, c2, c3⟩ := pt c (List.mem_of_getElem? hx)
   have hi := (List.getElem?_eq_some_iff.1 hx).1
   have hg : gd (out.length + [p].length) = some () := gdp (by simp; omega)
   refine ⟨out ++ [p], ?_, ?_, by simp [hI.1], fun q hq => ?_⟩
   ·simp only [cnt_in hx, cond_true, idx_nat, hx, Option.bind_some, c1, rePart_id, hg, cnt_up hx (by omega)]
   ·simp only [cnt_in hx, cond_true, idx_nat, hx, Option.bind_some, c2, rePart_id, hg, cnt_up hx (by omega)]
   ·rcases List.mem_append.1 hq with hq | hq
    ·exact hI.2 q hq
    ·rw [List.mem_singleton.1 hq]; exact c3
end Go.Proofs.YtdlfoecpgaenpaaGreatDoor
