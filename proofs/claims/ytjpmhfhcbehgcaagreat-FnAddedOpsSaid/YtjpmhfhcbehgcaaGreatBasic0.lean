/- Plain laws of sizes, copies and equality, for every type of data. -/
import Derived.Test.YtjpmhfhcbehgcaaGreatPlain2
import Derived.Test.YtjpmhfhcbehgcaaGreatLink1
set_option linter.unusedSimpArgs false
set_option linter.unusedVariables false
namespace Go.Abs
theorem FitD.str_le {L : Nat} {s : Str} (h : FitD L (.str s)) : s.length ≤ L := by
  generalize hd : D.str s = d at h
  cases h <;> cases hd
  assumption
theorem FitD.wf {L : Nat} {k : IntKind} {n : Int} (h : FitD L (.int k n)) : (Lit.int k n).wf = true := by
  generalize hd : D.int k n = d at h
  cases h <;> cases hd
  assumption
theorem FitD.list_le {L : Nat} {t : Ty} {xs : List t.den} (h : FitD L (.list t xs)) : xs.length ≤ L := by
  generalize hd : D.list t xs = d at h
  cases h <;> cases hd
  assumption
/-- the data's cells fit -/
def Fit (L : Nat) (t : Ty) (x : t.den) : Prop := ∀ d, d ∈ t.cells x → FitD L d
theorem FitD.list_mem {L : Nat} {t : Ty} {xs : List t.den} (h : FitD L (.list t xs)) : ∀ x, x ∈ xs → Fit L t x := by
  generalize hd : D.list t xs = d at h
  cases h <;> cases hd
  rename_i hx
  intro x hm d hdm
  obtain ⟨i, hi⟩ := List.mem_iff_getElem?.1 hm
  obtain ⟨j, hj⟩ := List.mem_iff_getElem?.1 hdm
  exact hx i x j d hi hj
theorem FitD.mkList {L : Nat} {t : Ty} {xs : List t.den} (h : xs.length ≤ L) (hx : ∀ x, x ∈ xs → Fit L t x) : FitD L (.list t xs) :=
  .list t xs h fun _ x _ d hi hj => hx x (List.mem_of_getElem? hi) d (List.mem_of_getElem? hj)
theorem FitD.int_any {L L' : Nat} {k : IntKind} {n : Int} (h : FitD L (.int k n)) : FitD L' (.int k n) := .int k n h.wf
theorem FitD.bool_any {L : Nat} {b : Bool} : FitD L (.bool b) := .bool b
theorem FitD.mono {L L' : Nat} (hL : L ≤ L') {d : D} (h : FitD L d) : FitD L' d := by
  induction h with
  | int k n h => exact .int k n h
  | bool b => exact .bool b
  | str s h => exact .str s (Nat.le_trans h hL)
  | list t xs h _ ih => exact .list t xs (Nat.le_trans h hL) ih
theorem Fit.mono {L L' : Nat} (hL : L ≤ L') {t : Ty} {x : t.den} (h : Fit L t x) : Fit L' t x := fun d hd => (h d hd).mono hL
end Go.Abs
namespace Go.Proofs.YtjpmhfhcbehgcaaGreat
open Go.Abs Go.Proofs

/-- what memory can hold; what a law looks at -/
abbrev B47 : Nat := 140737488351232
abbrev B20 : Nat := 1048576
/-- what a function that is called once hands back, at most -/
abbrev B24 : Nat := 16777216
theorem le24 : B20 ≤ B24 := by decide
theorem list24 {t : Ty} {xs : List t.den} (h : FitD B24 (.list t xs)) : (xs.length : Int) ≤ 16777216 := by
  have h1 : xs.length ≤ 16777216 := h.list_le
  omega
theorem reach_eq : reachBytes = B47 := by decide
theorem list47 {t : Ty} {xs : List t.den} (h : FitD B47 (.list t xs)) : (xs.length : Int) ≤ 140737488351232 := by
  have h1 : xs.length ≤ 140737488351232 := h.list_le
  omega
theorem list20 {t : Ty} {xs : List t.den} (h : FitD B20 (.list t xs)) : (xs.length : Int) ≤ 1048576 := by
  have h1 : xs.length ≤ 1048576 := h.list_le
  omega
theorem str47 {s : Str} (h : FitD B47 (.str s)) : (s.length : Int) ≤ 140737488351232 := by
  have h1 : s.length ≤ 140737488351232 := h.str_le
  omega
theorem str20 {s : Str} (h : FitD B20 (.str s)) : (s.length : Int) ≤ 1048576 := by
  have h1 : s.length ≤ 1048576 := h.str_le
  omega
theorem mkStr20 {s : Str} (h : (s.length : Int) ≤ 1048576) : FitD B20 (.str s) := .str s (by show s.length ≤ 1048576; omega)
theorem mkList20 {t : Ty} {xs : List t.den} (h : (xs.length : Int) ≤ 1048576) (hx : ∀ x, x ∈ xs → Fit B20 t x) : FitD B20 (.list t xs) := .mkList (by show xs.length ≤ 1048576; omega) hx

/-- the size is too great, or the rest and what it tells -/
def SzK {α : Type} (f : α → Int → Option Int) (P : Prop) (x : α) (c s : Nat) : Prop :=
  ∀ l : Int, 0 ≤ l → l ≤ 1048576 → ∃ r, f x l = some r ∧ (r < 0 ∨ (0 ≤ r ∧ r ≤ l ∧ 20 * r + c ≤ 20 * l + s ∧ P))
theorem sum_le {α : Type} (f : α → Nat) : ∀ (xs : List α) (c : Nat), (∀ x, x ∈ xs → f x ≤ c) → (xs.map f).sum ≤ xs.length * c
  | [], c, _ => by simp
  | x :: xs, c, h => by
    have h1 := sum_le f xs c fun y hy => h y (List.mem_cons_of_mem _ hy)
    have h2 := h x List.mem_cons_self
    simp only [List.map_cons, List.sum_cons, List.length_cons, Nat.succ_mul]
    omega

/-- a list whose elements have no sizes -/
theorem szFlat_ok {t : Ty} {g : List t.den → Int → Option Int} (hflat : ∀ x : t.den, Fit B47 t x → Fit B20 t x)
    (hg : ∀ a b, g a b = bif (decide ((w64 (b - (a.length : Int))) < 0)) then
    some ((-1))
  else
    some (w64 (b - (a.length : Int)))) (cE : t.den → Nat) (hc : ∀ x, cE x ≤ 20) (xs : List t.den) (h : FitD B47 (.list t xs)) : SzK g (FitD B20 (.list t xs)) xs ((xs.map cE).sum) 0 := by
  intro l h0 h1
  have hl := list47 h
  rw [hg, w64_id (by omega) (by omega)]
  by_cases hn : l - (xs.length : Int) < 0
  · exact ⟨-1, by simp only [hn, decide_true, cond_true], .inl (by omega)⟩
  · have hs := sum_le cE xs 20 fun x _ => hc x
    exact ⟨_, by simp only [hn, decide_false, cond_false]; rfl, .inr ⟨by omega, by omega, by omega, mkList20 (by omega) fun x hx => hflat x (h.list_mem x hx)⟩⟩
/-- a list of lists or structs -/
theorem szList_ok {t : Ty} {f : t.den → Int → Option Int} {g : List t.den → Int → Option Int}
    (hg : ∀ a b, g a b = (bif (decide ((w64 (b - (a.length : Int))) < 0)) then
    some ((-1))
  else
  loopD (fun (x1 : (List t.den) × Int × Int) =>
    bif (decide (x1.2.2 < (x1.1.length : Int))) then
      (idx x1.1 x1.2.2).bind fun e2 =>
      (f e2 x1.2.1).bind fun r3 =>
      bif (decide (r3 < 0)) then
        some (.inr ((-1)))
      else
        some (.inl (x1.1, r3, w64 (x1.2.2 + 1)))
    else
      some (.inr (x1.2.1))
  ) (a, w64 (b - (a.length : Int)), 0))) (cE : t.den → Nat) (s : Nat) (hs : s ≤ 20) (xs : List t.den) (hf : ∀ x, x ∈ xs → Fit B47 t x → SzK f (Fit B20 t x) x (cE x) s) (h : FitD B47 (.list t xs)) : SzK g (FitD B20 (.list t xs)) xs ((xs.map cE).sum) 0 := by
  intro l h0 h1
  have hl := list47 h
  rw [hg, w64_id (by omega) (by omega)]
  by_cases hn : l - (xs.length : Int) < 0
  · exact ⟨-1, by simp only [hn, decide_true, cond_true], .inl (by omega)⟩
  · simp only [hn, decide_false, cond_false]
    obtain ⟨r, hr, h2⟩ := szLoop f (Fit B20 t) cE xs (fun x hx l h0 h1 => by
      obtain ⟨r, e, p⟩ := hf x hx (h.list_mem x hx) l h0 h1
      refine ⟨r, e, ?_⟩
      rcases p with p | ⟨p1, p2, p3, p4⟩
      · exact .inl p
      · exact .inr ⟨p1, p2, by omega, p4⟩) (by omega) (l - xs.length) (by omega) (by omega)
    refine ⟨r, hr, ?_⟩
    rcases h2 with h2 | ⟨h2, h3, h5, h4⟩
    · exact .inl h2
    · exact .inr ⟨h2, by omega, by omega, mkList20 (by omega) h4⟩
/-- a list of strings -/
theorem szStrs_ok {g : List Str → Int → Option Int}
    (hg : ∀ a b, g a b = (bif (decide ((w64 (b - (a.length : Int))) < 0)) then
    some ((-1))
  else
    loopD (fun (x1 : (List Str) × Int × Int) =>
      bif (decide (x1.2.2 < (x1.1.length : Int))) then
        (idx x1.1 x1.2.2).bind fun e2 =>
        bif (decide ((w64 (x1.2.1 - (e2.length : Int))) < 0)) then
          some (.inr ((-1)))
        else
          some (.inl (x1.1, w64 (x1.2.1 - (e2.length : Int)), w64 (x1.2.2 + 1)))
      else
        some (.inr (x1.2.1))
    ) (a, w64 (b - (a.length : Int)), 0))) (xs : List Str) (h : FitD B47 (.list (.base .str) xs)) : SzK g (FitD B20 (.list (.base .str) xs)) xs ((xs.map fun _ => 1).sum) 0 := by
  refine szList_ok (t := .base .str) (f := fun s b => some (w64 (b - (s.length : Int)))) hg (fun _ => 1) 1 (by omega) xs (fun s _ hs l h0 h1 => ?_) h
  have hs' : FitD B47 (.str s) := hs (.str s) (by simp [Ty.cells, Base.cells])
  have := str47 hs'
  refine ⟨w64 (l - (List.length s : Int)), rfl, ?_⟩
  rw [w64_id (by omega) (by omega)]
  by_cases hn : l - (s.length : Int) < 0
  · exact .inl hn
  · exact .inr ⟨by omega, by omega, by omega, fun d hd => by
      simp only [Ty.cells, Base.cells, List.mem_singleton] at hd
      subst hd
      exact mkStr20 (by omega)⟩

/-- a copy, element by element -/
theorem toList_ok {t : Ty} {f : t.den → Option t.den} {z : t.den} {g : List t.den → Option (List t.den)}
    (hg : ∀ a, g a = (mk (a.length : Int)).bind fun m1 =>
  loopD (fun (x2 : (List t.den) × (List t.den) × Int) =>
    bif (decide (x2.2.2 < (x2.1.length : Int))) then
      (idx x2.1 x2.2.2).bind fun e3 =>
      (f e3).bind fun r4 =>
      (idx x2.2.1 x2.2.2).bind fun _ =>
      (x2.2.1[x2.2.2.toNat]?).bind fun e6 =>
      some (.inl (x2.1, x2.2.1.set x2.2.2.toNat r4, w64 (x2.2.2 + 1)))
    else
      some (.inr (x2.2.1))
  ) (a, List.replicate m1 z, 0)) (xs : List t.den) (hf : ∀ x, x ∈ xs → Fit B20 t x → f x = some x) (h : FitD B20 (.list t xs)) : g xs = some xs := by
  have hl := list20 h
  rw [hg]
  have hm : mk (xs.length : Int) = some xs.length := by
    unfold mk
    rw [if_pos (by omega)]
    simp
  rw [hm, Option.bind_some]
  exact copyLoop f xs (fun x hx => hf x hx (h.list_mem x hx)) (by omega) _ (by simp)
/-- a list is equal to itself -/
theorem eqList_ok {t : Ty} {f : t.den → t.den → Option Bool} {g : List t.den → List t.den → Option Bool}
    (hg : ∀ a b, g a b = bif ((a.length : Int) != (b.length : Int)) then
    some (false)
  else
  loopD (fun (x1 : (List t.den) × (List t.den) × Int) =>
    bif (decide (x1.2.2 < (x1.1.length : Int))) then
      (idx x1.1 x1.2.2).bind fun e2 =>
      (idx x1.2.1 x1.2.2).bind fun e3 =>
      (f e2 e3).bind fun r4 =>
      bif (!r4) then
        some (.inr (false))
      else
        some (.inl (x1.1, x1.2.1, w64 (x1.2.2 + 1)))
    else
      some (.inr (true))
  ) (a, b, 0)) (xs : List t.den) (hf : ∀ x, x ∈ xs → Fit B24 t x → f x x = some true) (h : FitD B24 (.list t xs)) : g xs xs = some true := by
  have hl := list24 h
  rw [hg]
  have e : ((xs.length : Int) != (xs.length : Int)) = false := by simp
  rw [e, cond_false]
  exact eqLoop f xs (fun x hx => hf x hx (h.list_mem x hx)) (by omega)
end Go.Proofs.YtjpmhfhcbehgcaaGreat
