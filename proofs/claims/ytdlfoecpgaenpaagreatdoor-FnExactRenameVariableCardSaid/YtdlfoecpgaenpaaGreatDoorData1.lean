/- Plain laws: tables out of a text: ParseData alike on both sides. -/
import Derived.Test.YtdlfoecpgaenpaaGreatDoorSplit1
import Derived.Test.YtdlfoecpgaenpaaGreatDoorFree1
set_option linter.unusedSimpArgs false
set_option linter.unusedVariables false
namespace Go.Proofs.YtdlfoecpgaenpaaGreatDoor
noncomputable section
open Go.Abs Go.Proofs
theorem of_ex {ρ : Type} {x : Option ρ} {v : ρ} (h : ∃ r, x = some r /\ r = v) : x = some v := by
 obtain ⟨r, e, rfl⟩ := h
 exact e
theorem of_ex2 {ρ σ : Type} {x : Option ρ} {F : σ -> ρ} (h : ∃ r, x = some r /\ ∃ y, r = F y) : ∃ y, x = some (F y) := by
 obtain ⟨r, e, y, rfl⟩ := h
 exact ⟨y, e⟩
def allFrom {α : Type} (p : Nat -> α -> Bool) : Nat -> List α -> Bool
 | _, [] => true
 | i, x :: r => p i x && allFrom p (i + 1) r
theorem all_run {α X ρ : Type} {g : X -> Option (X ⊕ ρ)} (pk : Nat -> X) (xs : List α) (p : Nat -> α -> Bool) (no yes : ρ)
  (hs : ∀ i x, xs[i]? = some x -> g (pk i) = bif p i x then some (.inl (pk (i + 1))) else some (.inr no))
  (hf : g (pk xs.length) = some (.inr yes)) : loopD g (pk 0) = some (bif allFrom p 0 xs then yes else no) := by
 have key : ∀ (ys : List α) (i : Nat), xs.drop i = ys -> i <= xs.length -> loopD g (pk i) = some (bif allFrom p i ys then yes else no) := by
  intro ys
  induction ys with
  | nil =>
   intro i hd hi
   have h2 : xs.length <= i := List.drop_eq_nil_iff.1 hd
   have : i = xs.length := by omega
   subst this
   rw [loopD_eq, hf]; rfl
  | cons y r ih =>
   intro i hd hi
   have hx : xs[i]? = some y := by
    have := congrArg (·[0]?) hd
    simpa using this
   have hlt := (List.getElem?_eq_some_iff.1 hx).1
   rw [loopD_eq, hs i y hx]
   show _ = some (bif (p i y && allFrom p (i + 1) r) then yes else no)
   cases p i y with
   | true =>
    simp only [cond_true, Bool.true_and]
    refine ih (i + 1) ?_ hlt
    have := congrArg List.tail hd
    simpa using this
   | false => rfl
 exact key xs 0 rfl (Nat.zero_le _)
def numB (p : Str) : Option Int := match iParse p (-1000000000) 1000000000 with
 | some (v, true) => some v
 | _ => none
theorem numI (p : Str) (hl : p.length <= 1048576) : ∃ v, iParse p (-1000000000) 1000000000 = some (v, (numB p).isSome) /\ (∀ u, numB p = some u -> v = u) := by
 obtain ⟨v, ok, e, _, _⟩ := iParse_spec p (-1000000000) 1000000000 (by omega) (by omega) (by omega)
 unfold numB
 rw [e]
 cases ok with
 | true => exact ⟨v, rfl, fun u hu => by cases hu; rfl⟩
 | false => exact ⟨v, rfl, fun u hu => by cases hu⟩
theorem numS (p : Str) (hl : p.length <= 1048576) : ∃ v ok, sParseInt p = some (v, ok) /\ (numB p).isSome = (ok && (decide (v >= -1000000000) && decide (v <= 1000000000))) /\ (∀ u, numB p = some u -> v = u) := by
 obtain ⟨v, ok, e, h1, h2⟩ := sParseInt_spec p (by omega)
 obtain ⟨w, ok2, e2, k1, k2⟩ := iParse_spec p (-1000000000) 1000000000 (by omega) (by omega) (by omega)
 refine ⟨v, ok, e, ?_, ?_⟩
 ·unfold numB
  rw [e2]
  cases ok2 with
  | true =>
   obtain ⟨c1, c2, c3⟩ := k1 rfl
   cases ok with
   | true =>
    obtain ⟨d1, d2, d3⟩ := h1 rfl
    have : v = w := itoa_inj ⟨d2, d3⟩ (d1.trans c1.symm) ⟨by omega, by omega⟩
    subst this
    rw [decide_eq_true c2, decide_eq_true c3]; rfl
   | false => exact absurd c1 ((h2 rfl).2 w (by omega) (by omega))
  | false =>
   cases ok with
   | false => rfl
   | true =>
    obtain ⟨d1, d2, d3⟩ := h1 rfl
    by_cases hr : v >= -1000000000 /\ v <= 1000000000
    ·exact absurd d1 ((k2 rfl).2 v hr.1 hr.2)
    ·have : (decide (v >= -1000000000) && decide (v <= 1000000000)) = false := by
      by_cases ha : v >= -1000000000
      ·rw [decide_eq_false (fun hb => hr ⟨ha, hb⟩), Bool.and_false]
      ·rw [decide_eq_false ha, Bool.false_and]
     rw [this]; rfl
 ·intro u hu
  unfold numB at hu
  rw [e2] at hu
  cases ok2 with
  | false => cases hu
  | true =>
   cases hu
   obtain ⟨c1, c2, c3⟩ := k1 rfl
   cases ok with
   | true =>
    obtain ⟨d1, d2, d3⟩ := h1 rfl
    exact itoa_inj ⟨d2, d3⟩ (d1.trans c1.symm) ⟨by omega, by omega⟩
   | false => exact absurd c1 ((h2 rfl).2 w (by omega) (by omega))
def numsOf : List Str -> Option (List Int)
 | [] => some []
 | p :: r => (numB p).bind fun v => (numsOf r).map (v :: ·)
theorem numsOf_append : ∀ (a b : List Str), numsOf (a ++ b) = (numsOf a).bind fun x => (numsOf b).map (x ++ ·)
 | [], b => by simp [numsOf]
 | p :: r, b => by
  show (numB p).bind (fun v => (numsOf (r ++ b)).map (v :: ·)) = ((numB p).bind fun v => (numsOf r).map (v :: ·)).bind fun x => (numsOf b).map (x ++ ·)
  rw [numsOf_append r b]
  cases numB p with
  | none => rfl
  | some v =>
   simp only [Option.bind_some]
   cases numsOf r with
   | none => rfl
   | some x =>
    simp only [Option.bind_some, Option.map_some]
    cases numsOf b <;> rfl
theorem numsOf_len : ∀ {a : List Str} {x : List Int}, numsOf a = some x -> x.length = a.length
 | [], x, h => by cases h; rfl
 | p :: r, x, h => by
  have h : (numB p).bind (fun v => (numsOf r).map (v :: ·)) = some x := h
  cases hp : numB p with
  | none => rw [hp] at h; cases h
  | some v =>
   rw [hp] at h
   simp only [Option.bind_some] at h
   cases hr : numsOf r with
   | none => rw [hr] at h; cases h
   | some y =>
    rw [hr] at h
    cases h
    simp [numsOf_len hr]
theorem numsOf_fail {xs : List Str} {i : Nat} {p : Str} (h : xs[i]? = some p) (hp : numB p = none) : numsOf xs = none := by
 obtain ⟨hi, rfl⟩ := List.getElem?_eq_some_iff.1 h
 have e : xs = xs.take i ++ (xs[i] :: xs.drop (i + 1)) := by rw [<- List.drop_eq_getElem_cons hi, List.take_append_drop]
 rw [e, numsOf_append]
 have : numsOf (xs[i] :: xs.drop (i + 1)) = none := by
  show (numB xs[i]).bind _ = none
  rw [hp]; rfl
 rw [this]
 cases numsOf (xs.take i) <;> rfl
theorem numsOf_next {xs : List Str} {i : Nat} {p : Str} {v : Int} {out : List Int} (h : xs[i]? = some p) (ho : numsOf (xs.take i) = some out) (hp : numB p = some v) : numsOf (xs.take (i + 1)) = some (out ++ [v]) := by
 obtain ⟨hi, rfl⟩ := List.getElem?_eq_some_iff.1 h
 rw [List.take_succ_eq_append_getElem hi, numsOf_append, ho]
 show (Option.some out).bind (fun x => ((numB xs[i]).bind fun v => (numsOf []).map (v :: ·)).map (x ++ ·)) = _
 rw [hp]; rfl
theorem iRow_ok (a : Str) (b : Int) (hl : a.length <= 100000) : iDataRow a b = some (match numsOf (Go.Lib.split a [32]) with
  | some l => (l, (l.length : Int) == b)
  | none => ([], false)) := by
 obtain ⟨s1, s2⟩ := split_len a [32]
 unfold iDataRow
 rw [show (32 : Int) = ((32 : UInt8).toNat : Int) from rfl, iSplit_ok a 32 (by omega)]
 simp only [Option.bind_some]
 generalize Go.Lib.split a [32] = ps at s1 s2
 refine of_ex (list_run (fun (out : List Int) (i : Nat) => ((b, out, ps, (ps.length : Int), (i : Int)) : Int × (List Int) × (List Str) × Int × Int)) ps (fun i out => numsOf (ps.take i) = some out) _ (fun i p out hp hI => ?_) (fun out hI => ?_) [] rfl)
 ·have hi := (List.getElem?_eq_some_iff.1 hp).1
  obtain ⟨v, e, hv⟩ := numI p (by have := s2 p (List.mem_of_getElem? hp); omega)
  simp only [cnt_in hp, cond_true, idx_nat, hp, Option.bind_some, Int.toNat_natCast, e, cnt_up hp (by omega)]
  cases hn : numB p with
  | none => exact .inr ⟨_, rfl, by rw [numsOf_fail hp hn]⟩
  | some u =>
   have := hv u hn
   subst this
   have ho := numsOf_len hI
   rw [List.length_take] at ho
   refine .inl ⟨out ++ [v], ?_, numsOf_next hp hI hn⟩
   rw [gdp (by simp; omega)]
   rfl
 ·rw [List.take_length] at hI
  exact ⟨_, by simp only [cnt_out, cond_false]; rfl, by rw [hI]⟩
theorem sRow_ok (a : Str) (b : Int) (hl : a.length <= 100000) : ∃ xs, sL18Row a b = some (match numsOf (Go.Lib.split a [32]) with
  | some l => (l, (l.length : Int) == b)
  | none => (xs, false)) := by
 obtain ⟨s1, s2⟩ := split_len a [32]
 unfold sL18Row
 rw [show (32 : Int) = ((32 : UInt8).toNat : Int) from rfl, sSplit_ok a 32 (by omega)]
 simp only [Option.bind_some]
 generalize Go.Lib.split a [32] = ps at s1 s2
 refine of_ex2 (list_run (fun (out : List Int) (i : Nat) => ((b, out, ps, (i : Int)) : Int × (List Int) × (List Str) × Int)) ps (fun i out => numsOf (ps.take i) = some out) (fun r => ∃ xs, r = (match numsOf ps with
  | some l => (l, (l.length : Int) == b)
  | none => (xs, false))) (fun i p out hp hI => ?_) (fun out hI => ?_) [] rfl)
 ·have hi := (List.getElem?_eq_some_iff.1 hp).1
  obtain ⟨v, ok, e, hk, hv⟩ := numS p (by have := s2 p (List.mem_of_getElem? hp); omega)
  have ho := numsOf_len hI
  rw [List.length_take] at ho
  have hnum : sL3Number v = some (decide (v >= -1000000000) && decide (v <= 1000000000)) := by
   unfold sL3Number
   rw [within_some]; rfl
  simp only [cnt_in hp, cond_true, idx_nat, hp, Option.bind_some, Int.toNat_natCast, e, hnum, cnt_up hp (by omega)]
  cases hn : numB p with
  | none =>
   rw [hn] at hk
   have hk : (ok && (decide (v >= -1000000000) && decide (v <= 1000000000))) = false := hk.symm
   refine .inr ⟨(out, false), ?_, out, by rw [numsOf_fail hp hn]⟩
   cases ok with
   | false => rfl
   | true =>
    rw [Bool.true_and] at hk
    rw [hk]; rfl
  | some u =>
   have := hv u hn
   subst this
   rw [hn] at hk
   have hk : true = (ok && (decide (v >= -1000000000) && decide (v <= 1000000000))) := hk
   have hk' := hk.symm
   rw [Bool.and_eq_true] at hk'
   refine .inl ⟨out ++ [v], ?_, numsOf_next hp hI hn⟩
   rw [hk'.1, hk'.2, gdp (by simp; omega)]
   rfl
 ·rw [List.take_length] at hI
  exact ⟨_, by simp only [cnt_out, cond_false]; rfl, [], by rw [hI]⟩
theorem cut_none {α : Type} (a : List α) (k : Nat) (h : k <= a.length) : eff.cutL a none (some (k : Int)) = some (a.take k) := by
 unfold eff.cutL
 simp only [Option.getD_none, Option.getD_some]
 rw [if_pos]
 ·simp
 ·omega
theorem cut_tail {α : Type} (x : α) (r : List α) : eff.cutL (x :: r) (some 1) none = some r := by
 unfold eff.cutL
 simp only [Option.getD_none, Option.getD_some]
 rw [if_pos]
 ·simp
 ·simp; omega
theorem bif_id (b : Bool) : (bif b then true else false) = b := by cases b <;> rfl
def distB (xs : List Str) : Bool := allFrom (fun i x => !((xs.take i).contains x)) 0 xs
theorem iDist_ok (xs : List Str) (hl : xs.length <= 1048576) : iAllDistinct xs = some (distB xs) := by
 unfold iAllDistinct
 refine (all_run (fun i => ((xs, xs, (xs.length : Int), (i : Int)) : (List Str) × (List Str) × Int × Int)) xs (fun i x => !((xs.take i).contains x)) false true (fun i x hx => ?_) ?_).trans (congrArg some (bif_id _))
 ·have hp := posOf_at x xs i 0 hx
  rw [Nat.zero_add] at hp
  simp only [cnt_in hx, cond_true, idx_nat, hx, Option.bind_some, iIndexOf_eq xs x (by omega), bne, hp, cnt_up hx (by omega)]
  cases (xs.take i).contains x <;> rfl
 ·simp only [cnt_out, cond_false]
theorem sDist_ok (xs : List Str) (hl : xs.length <= 1048576) : sAllDistinct xs = some (distB xs) := by
 unfold sAllDistinct
 refine (all_run (fun i => ((xs, (i : Int)) : (List Str) × Int)) xs (fun i x => !((xs.take i).contains x)) false true (fun i x hx => ?_) ?_).trans (congrArg some (bif_id _))
 ·have hi := (List.getElem?_eq_some_iff.1 hx).1
  simp only [cnt_in hx, cond_true, idx_nat, hx, Option.bind_some, cut_none xs i (by omega), sL1Has_eq (xs.take i) x (by rw [List.length_take]; omega), cnt_up hx (by omega)]
  cases (xs.take i).contains x <;> rfl
 ·simp only [cnt_out, cond_false]
def colsB (xs : List Str) : Bool := allFrom (fun _ x => validB x) 0 xs && ((decide (1 <= (xs.length : Int)) && decide ((xs.length : Int) <= 4)) && distB xs)
theorem iCols_ok (xs : List Str) (hl : xs.length <= 1048576) (hs : ∀ x, x ∈ xs -> x.length <= 120) : iAreColumns xs = some (colsB xs) := by
 unfold iAreColumns
 refine (all_run (fun i => ((xs, xs, (xs.length : Int), (i : Int)) : (List Str) × (List Str) × Int × Int)) xs (fun _ x => validB x) false ((decide (1 <= (xs.length : Int)) && decide ((xs.length : Int) <= 4)) && distB xs) (fun i x hx => ?_) ?_).trans ?_
 ·simp only [cnt_in hx, cond_true, idx_nat, hx, Option.bind_some, iValid_eq x (hs x (List.mem_of_getElem? hx)), cnt_up hx (by omega)]
  cases validB x <;> rfl
 ·simp only [cnt_out, cond_false, iWithin_eq, Option.bind_some, iDist_ok xs hl]
  cases (decide (1 <= (xs.length : Int)) && decide ((xs.length : Int) <= 4)) <;> rfl
 ·unfold colsB
  cases allFrom (fun _ x => validB x) 0 xs <;> rfl
theorem sCols_ok (xs : List Str) (hl : xs.length <= 1048576) (hs : ∀ x, x ∈ xs -> x.length <= 120) : sL3Columns xs = some (colsB xs) := by
 unfold sL3Columns
 refine (all_run (fun i => ((xs, (i : Int)) : (List Str) × Int)) xs (fun _ x => validB x) false ((decide (1 <= (xs.length : Int)) && decide ((xs.length : Int) <= 4)) && distB xs) (fun i x hx => ?_) ?_).trans ?_
 ·simp only [cnt_in hx, cond_true, idx_nat, hx, Option.bind_some, sValid_eq x (hs x (List.mem_of_getElem? hx)), cnt_up hx (by omega)]
  cases validB x <;> rfl
 ·simp only [cnt_out, cond_false, within_some, Option.bind_some, sDist_ok xs hl]
  show _ = some (Sum.inr ((decide ((xs.length : Int) >= 1) && decide ((xs.length : Int) <= 4)) && distB xs))
  cases (decide ((xs.length : Int) >= 1) && decide ((xs.length : Int) <= 4)) <;> rfl
 ·unfold colsB
  cases allFrom (fun _ x => validB x) 0 xs <;> rfl
def inR (n : Int) : Bool := decide (-1000000000 <= n) && decide (n <= 1000000000)
theorem iNumber_ok (n : Int) : iIsNumber n = some (inR n) := by
 unfold iIsNumber
 rw [iWithin_eq]; rfl
theorem sNumber_ok (n : Int) : sL3Number n = some (inR n) := by
 unfold sL3Number
 rw [within_some]; rfl
def rowB (w : Int) (r : GRow) : Bool := ((r.cells.length : Int) == w) && allFrom (fun _ n => inR n) 0 r.cells
def tabB (cols : List Str) (rows : List GRow) : Bool := colsB cols && (decide ((rows.length : Int) <= 12) && allFrom (fun _ r => rowB (cols.length : Int) r) 0 rows)
theorem iTable_ok (n step : Int) (text : Str) (cols : List Str) (rows : List GRow) (hl : cols.length <= 1048576) (hs : ∀ x, x ∈ cols -> x.length <= 120) (hr : ∀ r, r ∈ rows -> r.orig = [] /\ r.cells.length <= 1048576) :
  iIsTable ⟨5, n, step, text, [], cols, rows⟩ = some (tabB cols rows) := by
 unfold iIsTable tabB
 simp only [iCols_ok cols hl hs, Option.bind_some]
 cases colsB cols with
 | false => rfl
 | true =>
  simp only [Bool.not_true, cond_false, Bool.true_and]
  by_cases h12 : (rows.length : Int) > 12
  ·rw [decide_eq_true h12, decide_eq_false (by omega)]; rfl
  ·rw [decide_eq_false h12, decide_eq_true (by omega)]
   simp only [cond_false, Bool.true_and]
   refine (all_run (fun i => ((5, n, step, text, [], cols, rows, rows, (rows.length : Int), (i : Int)) : Int × Int × Int × Str × (List GVal) × (List Str) × (List GRow) × (List GRow) × Int × Int)) rows (fun _ r => rowB (cols.length : Int) r) false true (fun i r hx => ?_) ?_).trans (congrArg some (bif_id _))
   ·obtain ⟨ho, hc⟩ := hr r (List.mem_of_getElem? hx)
    have hup := cnt_up hx (by omega)
    simp only [cnt_in hx, cond_true, idx_nat, hx, Option.bind_some, ho, bne]
    unfold rowB
    cases ((r.cells.length : Int) == (cols.length : Int)) with
    | false => rfl
    | true =>
     simp only [Bool.not_true, cond_false, Bool.true_and]
     refine (all_run (fun j => ((5, n, step, text, [], cols, rows, r.cells, [], rows, (rows.length : Int), (i : Int), r.cells, (r.cells.length : Int), (j : Int)) : Int × Int × Int × Str × (List GVal) × (List Str) × (List GRow) × (List Int) × (List GOrigin) × (List GRow) × Int × Int × (List Int) × Int × Int)) r.cells (fun _ m => inR m) (Sum.inr false) (Sum.inl (5, n, step, text, [], cols, rows, rows, (rows.length : Int), ((i + 1 : Nat) : Int))) (fun j m hm => ?_) ?_).trans ?_
     ·simp only [cnt_in hm, cond_true, idx_nat, hm, Option.bind_some, iNumber_ok, cnt_up hm (by omega)]
      cases inR m <;> rfl
     ·simp only [cnt_out, cond_false]
      rw [loopD_eq]
      simp only [List.length_nil, Int.ofNat_zero, Int.lt_irrefl, decide_false, cond_false, hup, Option.bind_some]
     ·cases allFrom (fun _ m => inR m) 0 r.cells <;> rfl
   ·simp only [cnt_out, cond_false]
theorem sAsc_nil : sL3Ascending [] = some true := by
 unfold sL3Ascending
 rw [loopD_eq]; rfl
theorem sTable_ok (n step : Int) (text : Str) (cols : List Str) (rows : List GRow) (hl : cols.length <= 1048576) (hs : ∀ x, x ∈ cols -> x.length <= 120) (hr : ∀ r, r ∈ rows -> r.orig = [] /\ r.cells.length <= 1048576) :
  sL3Table ⟨5, n, step, text, [], cols, rows⟩ = some (tabB cols rows) := by
 unfold sL3Table tabB
 simp only [sCols_ok cols hl hs, Option.bind_some]
 cases colsB cols with
 | false => rfl
 | true =>
  simp only [Bool.not_true, cond_false, Bool.true_and]
  by_cases h12 : (rows.length : Int) > 12
  ·rw [decide_eq_true h12, decide_eq_false (by omega)]; rfl
  ·rw [decide_eq_false h12, decide_eq_true (by omega)]
   simp only [cond_false, Bool.true_and]
   refine (all_run (fun i => ((5, n, step, text, [], cols, rows, (i : Int)) : Int × Int × Int × Str × (List GVal) × (List Str) × (List GRow) × Int)) rows (fun _ r => rowB (cols.length : Int) r) false true (fun i r hx => ?_) ?_).trans (congrArg some (bif_id _))
   ·obtain ⟨ho, hc⟩ := hr r (List.mem_of_getElem? hx)
    have hup := cnt_up hx (by omega)
    simp only [cnt_in hx, cond_true, idx_nat, hx, Option.bind_some, ho, sAsc_nil, bne]
    unfold rowB
    cases ((r.cells.length : Int) == (cols.length : Int)) with
    | false => rfl
    | true =>
     simp only [Bool.not_true, cond_false, Bool.true_and]
     refine (all_run (fun j => ((5, n, step, text, [], cols, rows, (i : Int), r.cells, [], (j : Int)) : Int × Int × Int × Str × (List GVal) × (List Str) × (List GRow) × Int × (List Int) × (List GOrigin) × Int)) r.cells (fun _ m => inR m) (Sum.inr false) (Sum.inl (5, n, step, text, [], cols, rows, ((i + 1 : Nat) : Int))) (fun j m hm => ?_) ?_).trans ?_
     ·simp only [cnt_in hm, cond_true, idx_nat, hm, Option.bind_some, sNumber_ok, cnt_up hm (by omega)]
      cases inR m <;> rfl
     ·simp only [cnt_out, cond_false, hup]
     ·cases allFrom (fun _ m => inR m) 0 r.cells <;> rfl
   ·simp only [cnt_out, cond_false]
theorem iValidTab_ok (cols : List Str) (rows : List GRow) (hl : cols.length <= 1048576) (hs : ∀ x, x ∈ cols -> x.length <= 120) (hr : ∀ r, r ∈ rows -> r.orig = [] /\ r.cells.length <= 1048576) :
  iIsValidValue ⟨5, 0, 0, [], [], cols, rows⟩ = some (tabB cols rows) := by
 have h := iTable_ok 0 0 [] cols rows hl hs hr
 show iIsValidValueP ⟨5, 0, 0, [], [], cols, rows⟩ = _
 unfold iIsValidValueP
 simp only [h, Option.bind_some]
 cases ((cols.length : Int) == 0) <;> rfl
theorem sValidTab_ok (cols : List Str) (rows : List GRow) (hl : cols.length <= 1048576) (hs : ∀ x, x ∈ cols -> x.length <= 120) (hr : ∀ r, r ∈ rows -> r.orig = [] /\ r.cells.length <= 1048576) :
  sIsValidValue ⟨5, 0, 0, [], [], cols, rows⟩ = some (tabB cols rows) := by
 have h := sTable_ok 0 0 [] cols rows hl hs hr
 show sIsValidValueP ⟨5, 0, 0, [], [], cols, rows⟩ = _
 unfold sIsValidValueP
 simp only [h, Option.bind_some]
 rfl
def rowOf (w : Int) (p : Str) : Option GRow := match numsOf (Go.Lib.split p [32]) with
 | some l => if (l.length : Int) == w then some ⟨l, []⟩ else none
 | none => none
def rowsOf (w : Int) : List Str -> Option (List GRow)
 | [] => some []
 | p :: r => (rowOf w p).bind fun v => (rowsOf w r).map (v :: ·)
theorem rowsOf_append (w : Int) : ∀ (a b : List Str), rowsOf w (a ++ b) = (rowsOf w a).bind fun x => (rowsOf w b).map (x ++ ·)
 | [], b => by simp [rowsOf]
 | p :: r, b => by
  show (rowOf w p).bind (fun v => (rowsOf w (r ++ b)).map (v :: ·)) = ((rowOf w p).bind fun v => (rowsOf w r).map (v :: ·)).bind fun x => (rowsOf w b).map (x ++ ·)
  rw [rowsOf_append w r b]
  cases rowOf w p with
  | none => rfl
  | some v =>
   simp only [Option.bind_some]
   cases rowsOf w r with
   | none => rfl
   | some x =>
    simp only [Option.bind_some, Option.map_some]
    cases rowsOf w b <;> rfl
theorem rowsOf_fail {w : Int} {xs : List Str} {i : Nat} {p : Str} (h : xs[i]? = some p) (hp : rowOf w p = none) : rowsOf w xs = none := by
 obtain ⟨hi, rfl⟩ := List.getElem?_eq_some_iff.1 h
 have e : xs = xs.take i ++ (xs[i] :: xs.drop (i + 1)) := by rw [<- List.drop_eq_getElem_cons hi, List.take_append_drop]
 rw [e, rowsOf_append]
 have : rowsOf w (xs[i] :: xs.drop (i + 1)) = none := by
  show (rowOf w xs[i]).bind _ = none
  rw [hp]; rfl
 rw [this]
 cases rowsOf w (xs.take i) <;> rfl
theorem rowsOf_next {w : Int} {xs : List Str} {i : Nat} {p : Str} {v : GRow} {out : List GRow} (h : xs[i]? = some p) (ho : rowsOf w (xs.take i) = some out) (hp : rowOf w p = some v) : rowsOf w (xs.take (i + 1)) = some (out ++ [v]) := by
 obtain ⟨hi, rfl⟩ := List.getElem?_eq_some_iff.1 h
 rw [List.take_succ_eq_append_getElem hi, rowsOf_append, ho]
 show (Option.some out).bind (fun x => ((rowOf w xs[i]).bind fun v => (rowsOf w []).map (v :: ·)).map (x ++ ·)) = _
 rw [hp]; rfl
theorem rowsOf_len {w : Int} : ∀ {a : List Str} {x : List GRow}, rowsOf w a = some x -> x.length = a.length /\ ∀ r, r ∈ x -> r.orig = [] /\ (r.cells.length : Int) = w
 | [], x, h => by cases h; exact ⟨rfl, fun r hr => by cases hr⟩
 | p :: r, x, h => by
  have h : (rowOf w p).bind (fun v => (rowsOf w r).map (v :: ·)) = some x := h
  cases hp : rowOf w p with
  | none => rw [hp] at h; cases h
  | some v =>
   rw [hp] at h
   simp only [Option.bind_some] at h
   cases hr : rowsOf w r with
   | none => rw [hr] at h; cases h
   | some y =>
    rw [hr] at h
    cases h
    obtain ⟨h1, h2⟩ := rowsOf_len hr
    refine ⟨by simp [h1], fun q hq => ?_⟩
    rcases List.mem_cons.1 hq with rfl | hq
    ·unfold rowOf at hp
     split at hp
     ·rename_i l _
      split at hp
      ·rename_i hlw
       cases hp
       exact ⟨rfl, by simpa using hlw⟩
      ·cases hp
     ·cases hp
    ·exact h2 q hq
theorem rowOf_I (w : Int) (p : Str) (hl : p.length <= 100000) : ∃ l ok, iDataRow p w = some (l, ok) /\ ((ok = false /\ rowOf w p = none) \/ (ok = true /\ rowOf w p = some ⟨l, []⟩)) := by
 rw [iRow_ok p w hl]
 unfold rowOf
 cases numsOf (Go.Lib.split p [32]) with
 | none => exact ⟨_, _, rfl, .inl ⟨rfl, rfl⟩⟩
 | some l =>
  refine ⟨l, _, rfl, ?_⟩
  cases h : ((l.length : Int) == w) with
  | true => exact .inr ⟨rfl, by simpa using h⟩
  | false => exact .inl ⟨rfl, by simpa using h⟩
theorem rowOf_S (w : Int) (p : Str) (hl : p.length <= 100000) : ∃ l ok, sL18Row p w = some (l, ok) /\ ((ok = false /\ rowOf w p = none) \/ (ok = true /\ rowOf w p = some ⟨l, []⟩)) := by
 obtain ⟨xs, e⟩ := sRow_ok p w hl
 rw [e]
 unfold rowOf
 cases numsOf (Go.Lib.split p [32]) with
 | none => exact ⟨_, _, rfl, .inl ⟨rfl, rfl⟩⟩
 | some l =>
  refine ⟨l, _, rfl, ?_⟩
  cases h : ((l.length : Int) == w) with
  | true => exact .inr ⟨rfl, by simpa using h⟩
  | false => exact .inl ⟨rfl, by simpa using h⟩
def dataOf (p0 : Str) (ps : List Str) : GVal × Bool := match rowsOf ((Go.Lib.split p0 [32]).length : Int) ps with
 | none => (⟨0, 0, 0, [], [], [], []⟩, false)
 | some rows => if tabB (Go.Lib.split p0 [32]) rows = true then (⟨5, 0, 0, [], [], Go.Lib.split p0 [32], rows⟩, true) else (⟨0, 0, 0, [], [], [], []⟩, false)
theorem parts_cons (a : Str) : ∃ p0 ps, Go.Lib.split a [59, 32] = p0 :: ps := List.exists_cons_of_ne_nil (split_ne a [59, 32])
theorem iData_ok (a : Str) (hl : a.length <= 120) {p0 : Str} {ps : List Str} (hp : Go.Lib.split a [59, 32] = p0 :: ps) : iParseData a = some (dataOf p0 ps) := by
 obtain ⟨s1, s2⟩ := split_len a [59, 32]
 rw [hp] at s1 s2
 have h0 := s2 p0 (by simp)
 obtain ⟨c1, c2⟩ := split_len p0 [32]
 unfold iParseData dataOf
 have e1 : libSplit a [59, 32] = some (p0 :: ps) := by
  unfold libSplit
  rw [if_pos ⟨by omega, by simp⟩, hp]
 have e2 : iSplitByte p0 32 = some (Go.Lib.split p0 [32]) := iSplit_ok p0 32 (by omega)
 have i0 : idx (p0 :: ps) 0 = some p0 := rfl
 have i1 : (p0 :: ps)[0]? = some p0 := rfl
 simp only [e1, i0, i1, e2, cut_tail, Option.bind_some]
 generalize hcols : Go.Lib.split p0 [32] = cols at c1 c2
 refine of_ex (list_run (fun (out : List GRow) (i : Nat) => ((0, 0, 0, [], [], [], [], 5, 0, 0, [], [], cols, out, ps, (ps.length : Int), (i : Int)) : Int × Int × Int × Str × (List GVal) × (List Str) × (List GRow) × Int × Int × Int × Str × (List GVal) × (List Str) × (List GRow) × (List Str) × Int × Int)) ps (fun i out => rowsOf (cols.length : Int) (ps.take i) = some out) _ (fun i p out hp hI => ?_) (fun out hI => ?_) [] rfl)
 ·have hpl := s2 p (List.mem_cons_of_mem _ (List.mem_of_getElem? hp))
  obtain ⟨l, ok, e, hr⟩ := rowOf_I (cols.length : Int) p (by omega)
  have hpi := (List.getElem?_eq_some_iff.1 hp).1
  have hol := (rowsOf_len hI).1
  rw [List.length_take] at hol
  simp only [List.length_cons] at s1
  simp only [cnt_in hp, cond_true, idx_nat, hp, Option.bind_some, e, cnt_up hp (by omega)]
  rcases hr with ⟨rfl, hr⟩ | ⟨rfl, hr⟩
  ·exact .inr ⟨_, rfl, by rw [rowsOf_fail hp hr]⟩
  ·refine .inl ⟨out ++ [⟨l, []⟩], ?_, rowsOf_next hp hI hr⟩
   rw [gdp (by simp; omega)]
   rfl
 ·rw [List.take_length] at hI
  obtain ⟨hl1, hl2⟩ := rowsOf_len hI
  have hv := iValidTab_ok cols out (by omega) (fun x hx => by have := c2 x hx; omega) (fun r hr => by have := hl2 r hr; exact ⟨this.1, by omega⟩)
  refine ⟨_, ?_, rfl⟩
  simp only [cnt_out, cond_false, hv, Option.bind_some, hI]
  cases tabB cols out <;> rfl
theorem sData_ok (a : Str) (hl : a.length <= 120) {p0 : Str} {ps : List Str} (hp : Go.Lib.split a [59, 32] = p0 :: ps) : sParseData a = some (dataOf p0 ps) := by
 obtain ⟨s1, s2⟩ := split_len a [59, 32]
 rw [hp] at s1 s2
 have h0 := s2 p0 (by simp)
 obtain ⟨c1, c2⟩ := split_len p0 [32]
 unfold sParseData dataOf
 have e1 : sL18Parts a = some (p0 :: ps) := by rw [sParts_ok a (by omega), hp]
 have e2 : sSplitByte p0 32 = some (Go.Lib.split p0 [32]) := sSplit_ok p0 32 (by omega)
 have i0 : idx (p0 :: ps) 0 = some p0 := rfl
 have i1 : (p0 :: ps)[0]? = some p0 := rfl
 simp only [e1, i0, i1, e2, Option.bind_some]
 generalize hcols : Go.Lib.split p0 [32] = cols at c1 c2
 refine of_ex (list_run (fun (out : List GRow) (i : Nat) => ((0, 0, 0, [], [], [], [], p0 :: ps, 5, 0, 0, [], [], cols, out, ((i + 1 : Nat) : Int)) : Int × Int × Int × Str × (List GVal) × (List Str) × (List GRow) × (List Str) × Int × Int × Int × Str × (List GVal) × (List Str) × (List GRow) × Int)) ps (fun i out => rowsOf (cols.length : Int) (ps.take i) = some out) _ (fun i p out hp hI => ?_) (fun out hI => ?_) [] rfl)
 ·have hpl := s2 p (List.mem_cons_of_mem _ (List.mem_of_getElem? hp))
  obtain ⟨l, ok, e, hr⟩ := rowOf_S (cols.length : Int) p (by omega)
  have hpi := (List.getElem?_eq_some_iff.1 hp).1
  have hol := (rowsOf_len hI).1
  rw [List.length_take] at hol
  simp only [List.length_cons] at s1
  have d1 : decide (((i + 1 : Nat) : Int) < ((p0 :: ps).length : Int)) = true := by simp; omega
  have hx : (p0 :: ps)[i + 1]? = some p := by simpa using hp
  have hw : w64 (((i + 1 : Nat) : Int) + 1) = ((i + 1 + 1 : Nat) : Int) := by rw [w64_id (by omega) (by omega)]; omega
  simp only [d1, cond_true, idx_nat, hx, Option.bind_some, Int.toNat_natCast, e, hw]
  rcases hr with ⟨rfl, hr⟩ | ⟨rfl, hr⟩
  ·exact .inr ⟨_, rfl, by rw [rowsOf_fail hp hr]⟩
  ·refine .inl ⟨out ++ [⟨l, []⟩], ?_, rowsOf_next hp hI hr⟩
   rw [gdp (by simp; omega)]
   rfl
 ·rw [List.take_length] at hI
  obtain ⟨hl1, hl2⟩ := rowsOf_len hI
  have hv := sValidTab_ok cols out (by omega) (fun x hx => by have := c2 x hx; omega) (fun r hr => by have := hl2 r hr; exact ⟨this.1, by omega⟩)
  have d1 : decide (((ps.length + 1 : Nat) : Int) < ((p0 :: ps).length : Int)) = false := by simp
  refine ⟨_, ?_, rfl⟩
  simp only [d1, cond_false, hv, Option.bind_some, hI]
  cases tabB cols out <;> rfl
theorem data_alike (a : Str) (hl : a.length <= 120) : ∃ v ok, iParseData a = some (v, ok) /\ sParseData a = some (v, ok) /\ (ok = true -> ∃ cols rows, v = ⟨5, 0, 0, [], [], cols, rows⟩ /\ tabB cols rows = true /\ cols.length <= 122 /\ (∀ x, x ∈ cols -> x.length <= 120) /\ rows.length <= 122 /\ ∀ r, r ∈ rows -> r.orig = [] /\ r.cells.length <= 122) := by
 obtain ⟨p0, ps, hp⟩ := parts_cons a
 refine ⟨(dataOf p0 ps).1, (dataOf p0 ps).2, iData_ok a hl hp, sData_ok a hl hp, fun h => ?_⟩
 obtain ⟨s1, s2⟩ := split_len a [59, 32]
 rw [hp] at s1 s2
 simp only [List.length_cons] at s1
 have h0 := s2 p0 (by simp)
 obtain ⟨c1, c2⟩ := split_len p0 [32]
 unfold dataOf at h ⊢
 cases hr : rowsOf ((Go.Lib.split p0 [32]).length : Int) ps with
 | none => rw [hr] at h; cases h
 | some rows =>
  rw [hr] at h
  simp only at h ⊢
  by_cases ht : tabB (Go.Lib.split p0 [32]) rows = true
  ·rw [if_pos ht]
   obtain ⟨l1, l2⟩ := rowsOf_len hr
   exact ⟨_, rows, rfl, ht, by omega, fun x hx => by have := c2 x hx; omega, by omega, fun r hr => by have := l2 r hr; exact ⟨this.1, by omega⟩⟩
  ·rw [if_neg ht] at h; cases h
end
end Go.Proofs.YtdlfoecpgaenpaaGreatDoor
