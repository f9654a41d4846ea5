import Derived.Test.YtgfjbogcidlaeaaGreatDoorPlain1
import Derived.Test.YtgfjbogcidlaeaaGreatDoorLink1
/- Plain laws: loops that scan, sizes, equality with itself. -/
set_option linter.unusedSimpArgs false
set_option linter.unusedVariables false
namespace Go.Proofs.YtgfjbogcidlaeaaGreatDoor
open Go.Abs Go.Proofs
def J6 {α : Type} (p : α -> Nat -> Bool) : List α -> Nat -> Bool
 | [], _ => true
 | x :: r, i => p x i && J6 p r (i + 1)
theorem YI {α X : Type} {g : X -> Option (X ⊕ Bool)} (pk : Nat -> X) (xs : List α) (p : α -> Nat -> Bool) (fin : Bool)
  (h1 : ∀ i x, xs[i]? = some x -> g (pk i) = bif p x i then some (.inl (pk (i + 1))) else some (.inr false))
  (h2 : g (pk xs.length) = some (.inr fin)) : ah g (pk 0) = some (J6 p xs 0 && fin) := by
 have key : ∀ (n i : Nat), xs.length = i + n -> ah g (pk i) = some (J6 p (xs.drop i) i && fin) := by
  intro n
  induction n with
  | zero =>
   intro i hi
   rw [List.drop_eq_nil_of_le (by omega), aH]
   have : i = xs.length := by omega
   subst this
   rw [h2]
   simp [J6]
  | succ n ih =>
   intro i hi
   have hlt : i < xs.length := by omega
   rw [List.drop_eq_getElem_cons hlt, aH, h1 i xs[i] (zF hlt)]
   simp only [J6]
   cases p xs[i] i with
   | false => simp
   | true => simpa using ih (i + 1) (by omega)
 simpa using key xs.length 0 (by omega)
def SzOk {α : Type} (f : α -> Int -> Option Int) (P : α -> Prop) (cE : α -> Nat) (x : α) : Prop :=
 ∀ l : Int, 0 <= l -> l <= 1048576 -> ∃ r, f x l = some r /\ (r < 0 \/ (0 <= r /\ r <= l /\ 20 * r + cE x <= 20 * l + 20 /\ P x))
theorem adC {α : Type} (f : α -> Int -> Option Int) (P : α -> Prop) (cE : α -> Nat) (xs : List α) (hf : ∀ x ∈ xs, SzOk f P cE x) (hl : xs.length < 4611686018427387904) (l : Int) (h0 : 0 <= l) (h1 : l <= 1048576) :
  ∃ r, ah (fun (x1 : List α × Int × Int) =>
   bif (decide (x1.2.2 < (x1.1.length : Int))) then
    (idx x1.1 x1.2.2).bind fun e2 =>
    (f e2 x1.2.1).bind fun r3 =>
    bif (decide (r3 < 0)) then
     some (.inr ((-1)))
    else
     some (.inl (x1.1, r3, w64 (x1.2.2 + 1)))
   else
    some (.inr (x1.2.1))) (xs, l, 0) = some r /\ (r < 0 \/ (0 <= r /\ r <= l /\ 20 * r + (xs.map cE).sum <= 20 * l + 20 * xs.length /\ ∀ x ∈ xs, P x)) := by
 have key : ∀ (n i : Nat) (l' : Int), xs.length = i + n -> 0 <= l' -> l' <= l -> 20 * l' + ((xs.take i).map cE).sum <= 20 * l + 20 * i -> (∀ j x, xs[j]? = some x -> j < i -> P x) -> ∃ r, ah (fun (x1 : List α × Int × Int) =>
   bif (decide (x1.2.2 < (x1.1.length : Int))) then
    (idx x1.1 x1.2.2).bind fun e2 =>
    (f e2 x1.2.1).bind fun r3 =>
    bif (decide (r3 < 0)) then
     some (.inr ((-1)))
    else
     some (.inl (x1.1, r3, w64 (x1.2.2 + 1)))
   else
    some (.inr (x1.2.1))) (xs, l', (i : Int)) = some r /\ (r < 0 \/ (0 <= r /\ r <= l /\ 20 * r + (xs.map cE).sum <= 20 * l + 20 * xs.length /\ ∀ x ∈ xs, P x)) := by
  intro n
  induction n with
  | zero =>
   intro i l' hi h0' h1' hc hP
   have ht : xs.take i = xs := List.take_of_length_le (by omega)
   rw [ht] at hc
   refine ⟨l', ?_, .inr ⟨h0', h1', by omega, fun x hx => ?_⟩⟩
   ·rw [aH]
    have h : ¬ ((i : Int) < (xs.length : Int)) := by omega
    simp only [h, decide_false, cond_false]
   ·obtain ⟨j, hj, rfl⟩ := List.mem_iff_getElem.1 hx
    exact hP j _ (zF hj) (by omega)
  | succ n ih =>
   intro i l' hi h0' h1' hc hP
   have hlt : i < xs.length := by omega
   obtain ⟨r, hr, h⟩ := hf _ (List.getElem_mem hlt) l' h0' (by omega)
   have hd : ((i : Int) < (xs.length : Int)) := by omega
   rw [aH]
   simp only [hd, decide_true, cond_true, aB, zF hlt, zA, hr]
   rcases h with h | ⟨h2, h3, h5, h4⟩
   ·exact ⟨-1, by simp [h], .inl (by omega)⟩
   ·have hn : ¬ (r < 0) := by omega
    simp only [hn, decide_false, cond_false]
    rw [bG (by omega) (by omega)]
    have hsum : ((xs.take (i + 1)).map cE).sum = ((xs.take i).map cE).sum + cE xs[i] := by
     rw [List.take_add_one, zF hlt, List.map_append, List.sum_append]; simp only [Option.toList_some, List.map_cons, List.map_nil, List.sum_cons, List.sum_nil, Nat.add_zero]
    have := ih (i + 1) r (by omega) h2 (by omega) (by rw [hsum]; omega) (by
     intro j x hj hji
     by_cases hje : j = i
     ·subst hje
      rw [zF hlt] at hj
      cases hj
      exact h4
     ·exact hP j x hj (by omega))
    simpa using this
 exact key xs.length 0 l (by omega) h0 (Int.le_refl _) (by simp) (fun j x _ hj => absurd hj (by omega))
theorem adV {α : Type} (f : α -> α -> Option Bool) (xs : List α) (hf : ∀ x ∈ xs, f x x = some true) (hl : xs.length < 4611686018427387904) :
  ah (fun (x1 : List α × List α × Int) =>
   bif (decide (x1.2.2 < (x1.1.length : Int))) then
    (idx x1.1 x1.2.2).bind fun e2 =>
    (idx x1.2.1 x1.2.2).bind fun e3 =>
    (f e2 e3).bind fun r4 =>
    bif (!r4) then
     some (.inr (false))
    else
     some (.inl (x1.1, x1.2.1, w64 (x1.2.2 + 1)))
   else
    some (.inr (true))) (xs, xs, 0) = some true := by
 have := YI (g := fun (x1 : List α × List α × Int) =>
   bif (decide (x1.2.2 < (x1.1.length : Int))) then
    (idx x1.1 x1.2.2).bind fun e2 =>
    (idx x1.2.1 x1.2.2).bind fun e3 =>
    (f e2 e3).bind fun r4 =>
    bif (!r4) then
     some (.inr (false))
    else
     some (.inl (x1.1, x1.2.1, w64 (x1.2.2 + 1)))
   else
    some (.inr (true))) (fun i => (xs, xs, (i : Int))) xs (fun _ _ => true) true (by
  intro i x hx
  obtain ⟨hlt, rfl⟩ := zC.1 hx
  have hd : ((i : Int) < (xs.length : Int)) := by omega
  simp only [hd, decide_true, cond_true, aB, hx, zA, hf _ (List.getElem_mem hlt), Bool.not_true, cond_false]
  rw [bG (by omega) (by omega)]
  rfl) (by
  have h : ¬ ((xs.length : Int) < (xs.length : Int)) := by omega
  simp only [h, decide_false, cond_false])
 have e : ∀ (l : List α) i, J6 (fun (_ : α) (_ : Nat) => true) l i = true := by
  intro l
  induction l with
  | nil => intro i; rfl
  | cons x r ih => intro i; simpa [J6] using ih (i + 1)
 rw [e] at this
 exact this
end Go.Proofs.YtgfjbogcidlaeaaGreatDoor
/- Plain laws of sizes, copies and equality, for every type of data. -/
set_option linter.unusedSimpArgs false
set_option linter.unusedVariables false
namespace Go.Abs
theorem fC.Yy {L : Nat} {s : Str} (h : fC L (.str s)) : s.length <= L := by
 generalize hd : D.str s = d at h
 cases h <;> cases hd
 assumption
theorem fC.wf {L : Nat} {k : IntKind} {n : Int} (h : fC L (.int k n)) : (Lit.int k n).wf = true := by
 generalize hd : D.int k n = d at h
 cases h <;> cases hd
 assumption
theorem fC.O9 {L : Nat} {t : Ty} {xs : List t.den} (h : fC L (.list t xs)) : xs.length <= L := by
 generalize hd : D.list t xs = d at h
 cases h <;> cases hd
 assumption
def Fit (L : Nat) (t : Ty) (x : t.den) : Prop := ∀ d, d ∈ t.cells x -> fC L d
theorem fC.BH {L : Nat} {t : Ty} {xs : List t.den} (h : fC L (.list t xs)) : ∀ x, x ∈ xs -> Fit L t x := by
 generalize hd : D.list t xs = d at h
 cases h <;> cases hd
 rename_i hx
 intro x hm d hdm
 obtain ⟨i, hi⟩ := List.mem_iff_getElem?.1 hm
 obtain ⟨j, hj⟩ := List.mem_iff_getElem?.1 hdm
 exact hx i x j d hi hj
theorem fC.adQ {L : Nat} {t : Ty} {xs : List t.den} (h : xs.length <= L) (hx : ∀ x, x ∈ xs -> Fit L t x) : fC L (.list t xs) :=
 .list t xs h fun _ x _ d hi hj => hx x (zG hi) d (zG hj)
theorem fC.F5 {L L' : Nat} {k : IntKind} {n : Int} (h : fC L (.int k n)) : fC L' (.int k n) := .int k n h.wf
theorem fC.mono {L L' : Nat} (hL : L <= L') {d : D} (h : fC L d) : fC L' d := by
 induction h with
 | int k n h => exact .int k n h
 | bool b => exact .bool b
 | str s h => exact .str s (Nat.le_trans h hL)
 | list t xs h _ ih => exact .list t xs (Nat.le_trans h hL) ih
theorem Fit.mono {L L' : Nat} (hL : L <= L') {t : Ty} {x : t.den} (h : Fit L t x) : Fit L' t x := fun d hd => (h d hd).mono hL
end Go.Abs
namespace Go.Proofs.YtgfjbogcidlaeaaGreatDoor
open Go.Abs Go.Proofs
abbrev B47 : Nat := 140737488351232
abbrev B20 : Nat := 1048576
abbrev B24 : Nat := 16777216
theorem abv : B20 <= B24 := by decide
theorem UR {t : Ty} {xs : List t.den} (h : fC B24 (.list t xs)) : (xs.length : Int) <= 16777216 := by
 have h1 : xs.length <= 16777216 := h.O9
 omega
theorem adS {t : Ty} {xs : List t.den} (h : fC B47 (.list t xs)) : (xs.length : Int) <= 140737488351232 := by
 have h1 : xs.length <= 140737488351232 := h.O9
 omega
theorem Zz {t : Ty} {xs : List t.den} (h : fC B20 (.list t xs)) : (xs.length : Int) <= 1048576 := by
 have h1 : xs.length <= 1048576 := h.O9
 omega
theorem acd {s : Str} (h : fC B47 (.str s)) : (s.length : Int) <= 140737488351232 := by
 have h1 : s.length <= 140737488351232 := h.Yy
 omega
theorem ace {s : Str} (h : fC B20 (.str s)) : (s.length : Int) <= 1048576 := by
 have h1 : s.length <= 1048576 := h.Yy
 omega
theorem O7 {s : Str} (h : (s.length : Int) <= 1048576) : fC B20 (.str s) := .str s (by show s.length <= 1048576; omega)
theorem Rq {t : Ty} {xs : List t.den} (h : (xs.length : Int) <= 1048576) (hx : ∀ x, x ∈ xs -> Fit B20 t x) : fC B20 (.list t xs) := .adQ (by show xs.length <= 1048576; omega) hx
def SzK {α : Type} (f : α -> Int -> Option Int) (P : Prop) (x : α) (c s : Nat) : Prop :=
 ∀ l : Int, 0 <= l -> l <= 1048576 -> ∃ r, f x l = some r /\ (r < 0 \/ (0 <= r /\ r <= l /\ 20 * r + c <= 20 * l + s /\ P))
theorem TQ {α : Type} (f : α -> Nat) : ∀ (xs : List α) (c : Nat), (∀ x, x ∈ xs -> f x <= c) -> (xs.map f).sum <= xs.length * c
 | [], c, _ => by simp
 | x :: xs, c, h => by
  have h1 := TQ f xs c fun y hy => h y (List.mem_cons_of_mem _ hy)
  have h2 := h x List.mem_cons_self
  simp only [List.map_cons, List.sum_cons, List.length_cons, Nat.succ_mul]
  omega
theorem WR {t : Ty} {f : t.den -> Int -> Option Int} {g : List t.den -> Int -> Option Int}
  (hg : ∀ a b, g a b = (bif (decide ((w64 (b - (a.length : Int))) < 0)) then
  some ((-1))
 else
 ah (fun (x1 : (List t.den) × Int × Int) =>
  bif (decide (x1.2.2 < (x1.1.length : Int))) then
   (idx x1.1 x1.2.2).bind fun e2 =>
   (f e2 x1.2.1).bind fun r3 =>
   bif (decide (r3 < 0)) then
    some (.inr ((-1)))
   else
    some (.inl (x1.1, r3, w64 (x1.2.2 + 1)))
  else
   some (.inr (x1.2.1))
 ) (a, w64 (b - (a.length : Int)), 0))) (cE : t.den -> Nat) (s : Nat) (hs : s <= 20) (xs : List t.den) (hf : ∀ x, x ∈ xs -> Fit B47 t x -> SzK f (Fit B20 t x) x (cE x) s) (h : fC B47 (.list t xs)) : SzK g (fC B20 (.list t xs)) xs ((xs.map cE).sum) 0 := by
 intro l h0 h1
 have hl := adS h
 rw [hg, bG (by omega) (by omega)]
 by_cases hn : l - (xs.length : Int) < 0
 ·exact ⟨-1, by simp only [hn, decide_true, cond_true], .inl (by omega)⟩
 ·simp only [hn, decide_false, cond_false]
  obtain ⟨r, hr, h2⟩ := adC f (Fit B20 t) cE xs (fun x hx l h0 h1 => by
   obtain ⟨r, e, p⟩ := hf x hx (h.BH x hx) l h0 h1
   refine ⟨r, e, ?_⟩
   rcases p with p | ⟨p1, p2, p3, p4⟩
   ·exact .inl p
   ·exact .inr ⟨p1, p2, by omega, p4⟩) (by omega) (l - xs.length) (by omega) (by omega)
  refine ⟨r, hr, ?_⟩
  rcases h2 with h2 | ⟨h2, h3, h5, h4⟩
  ·exact .inl h2
  ·exact .inr ⟨h2, by omega, by omega, Rq (by omega) h4⟩
theorem WN {t : Ty} {f : t.den -> Option t.den} {z : t.den} {g : List t.den -> Option (List t.den)}
  (hg : ∀ a, g a = (mk (a.length : Int)).bind fun m1 =>
 ah (fun (x2 : (List t.den) × (List t.den) × Int) =>
  bif (decide (x2.2.2 < (x2.1.length : Int))) then
   (idx x2.1 x2.2.2).bind fun e3 =>
   (f e3).bind fun r4 =>
   (idx x2.2.1 x2.2.2).bind fun _ =>
   (x2.2.1[x2.2.2.toNat]?).bind fun e6 =>
   some (.inl (x2.1, x2.2.1.set x2.2.2.toNat r4, w64 (x2.2.2 + 1)))
  else
   some (.inr (x2.2.1))
 ) (a, List.replicate m1 z, 0)) (xs : List t.den) (hf : ∀ x, x ∈ xs -> Fit B20 t x -> f x = some x) (h : fC B20 (.list t xs)) : g xs = some xs := by
 have hl := Zz h
 rw [hg]
 have hm : mk (xs.length : Int) = some xs.length := by
  unfold mk
  rw [if_pos (by omega)]
  simp
 rw [hm, zA]
 exact aap f xs (fun x hx => hf x hx (h.BH x hx)) (by omega) _ (by simp)
theorem Np {t : Ty} {f : t.den -> t.den -> Option Bool} {g : List t.den -> List t.den -> Option Bool}
  (hg : ∀ a b, g a b = bif ((a.length : Int) != (b.length : Int)) then
  some (false)
 else
 ah (fun (x1 : (List t.den) × (List t.den) × Int) =>
  bif (decide (x1.2.2 < (x1.1.length : Int))) then
   (idx x1.1 x1.2.2).bind fun e2 =>
   (idx x1.2.1 x1.2.2).bind fun e3 =>
   (f e2 e3).bind fun r4 =>
   bif (!r4) then
    some (.inr (false))
   else
    some (.inl (x1.1, x1.2.1, w64 (x1.2.2 + 1)))
  else
   some (.inr (true))
 ) (a, b, 0)) (xs : List t.den) (hf : ∀ x, x ∈ xs -> Fit B24 t x -> f x x = some true) (h : fC B24 (.list t xs)) : g xs xs = some true := by
 have hl := UR h
 rw [hg]
 have e : ((xs.length : Int) != (xs.length : Int)) = false := by simp
 rw [e, cond_false]
 exact adV f xs (fun x hx => hf x hx (h.BH x hx)) (by omega)
end Go.Proofs.YtgfjbogcidlaeaaGreatDoor
/- Sizes, copies and equality of this translation, by genbasic.py. -/
set_option linter.unusedSimpArgs false
set_option linter.unusedVariables false
namespace Go.Proofs.YtgfjbogcidlaeaaGreatDoor
open Go.Abs Go.Proofs
theorem SC {L : Nat} {x : aV} : Fit L (.base .cell) x ↔ fC L (.int .i64 x.id) /\ fC L (.int .i64 x.version) /\ fC L (.int .i64 x.kind) /\ fC L (.str x.name) /\ fC L (.str x.code) /\ fC L (.int .i64 x.n) := by
 simp only [Fit, Ty.cells, Base.cells, List.mem_cons, List.not_mem_nil, or_false, forall_eq_or_imp, forall_eq]
theorem kW {L : Nat} {x : aW} : Fit L (.base .notebook) x ↔ fC L (.list (.base .cell) x.cells) := by
 simp only [Fit, Ty.cells, Base.cells, List.mem_cons, List.not_mem_nil, or_false, forall_eq_or_imp, forall_eq]
def uS (xs : List Str) : Nat := (xs.map fun _ => 1).sum
noncomputable def jd (x : aV) : Nat := 1 + 1 + 1 + 1 + 1 + 1
noncomputable def kX (xs : List aV) : Nat := (xs.map jd).sum
theorem Tq (x : aV) : jd x = 1 + 1 + 1 + 1 + 1 + 1 := by
 unfold jd; simp only [Nat.add_assoc]; try omega
noncomputable def uT (x : aW) : Nat := kX x.cells
theorem FP (x : aW) : uT x = kX x.cells := by
 unfold uT; simp only [Nat.add_assoc]; try omega
theorem PW (xs : List Str) (h : fC B24 (.list (.base .str) xs)) : oM xs xs = some true := Np (t := .base .str) (f := fun e e' => some (e == e')) (fun _ _ => rfl) xs (fun _ _ _ => by simp) h
theorem PV (xs : List Str) (h : fC B20 (.list (.base .str) xs)) : oM xs xs = some true := PW xs (h.mono abv)
theorem WS (x : aV) (h : Fit B47 (.base .cell) x) : SzK Gz (Fit B20 (.base .cell) x) x (jd x) 6 := by
 intro l h0 h1
 rw [SC] at h ⊢
 obtain ⟨c0, c1, c2, c3, c4, c5⟩ := h
 unfold Gz
 have s1 := acd c3
 rw [bG (n := l - (x.name.length : Int)) (by omega) (by omega)]
 by_cases q1 : l - (x.name.length : Int) < 0
 ·exact ⟨-1, by simp only [q1, decide_true, cond_true], .inl (by omega)⟩
 rw [decide_eq_false q1, cond_false]
 obtain ⟨r1, er1⟩ : ∃ r, r = l - (x.name.length : Int) := ⟨_, rfl⟩
 rw [<- er1]
 have s2 := acd c4
 rw [bG (n := r1 - (x.code.length : Int)) (by omega) (by omega)]
 by_cases q2 : r1 - (x.code.length : Int) < 0
 ·exact ⟨-1, by simp only [q2, decide_true, cond_true], .inl (by omega)⟩
 rw [decide_eq_false q2, cond_false]
 obtain ⟨r2, er2⟩ : ∃ r, r = r1 - (x.code.length : Int) := ⟨_, rfl⟩
 rw [<- er2]
 exact ⟨r2, rfl, .inr ⟨by omega, by omega, by rw [Tq]; omega, c0.F5, c1.F5, c2.F5, O7 (by omega), O7 (by omega), c5.F5⟩⟩
theorem TP (xs : List aV) (h : fC B47 (.list (.base .cell) xs)) : SzK Oc (fC B20 (.list (.base .cell) xs)) xs (kX xs) 0 :=
 WR (t := .base .cell) (f := fun e b => Gz e b) (fun _ _ => rfl) jd 6 (by omega) xs (fun y _ hf => WS y hf) h
theorem WO (x : aV) (h : Fit B20 (.base .cell) x) : toCell x = some x := by
 rfl
theorem TN (xs : List aV) (h : fC B20 (.list (.base .cell) xs)) : N7 xs = some xs :=
 WN (t := .base .cell) (fun _ => rfl) xs (fun y _ hf => WO y hf) h
theorem Yb (x : aV) (h : Fit B24 (.base .cell) x) : PZ x x = some true := by
 unfold PZ
 simp
theorem Vg (xs : List aV) (h : fC B24 (.list (.base .cell) xs)) : PY xs xs = some true :=
 Np (t := .base .cell) (fun _ _ => rfl) xs (fun y _ hf => Yb y hf) h
theorem Kq (x : aW) (h : Fit B47 (.base .notebook) x) : SzK oU (Fit B20 (.base .notebook) x) x (uT x) 0 := by
 intro l h0 h1
 rw [kW] at h ⊢
 have c0 := h
 unfold oU
 obtain ⟨r1, e1, p1⟩ := TP x.cells c0 l (by omega) (by omega)
 rw [e1, zA]
 rcases p1 with p1 | ⟨a1, b1, d1, p1⟩
 ·exact ⟨-1, by simp only [p1, decide_true, cond_true], .inl (by omega)⟩
 rw [decide_eq_false (show ¬ r1 < 0 by omega), cond_false]
 exact ⟨r1, rfl, .inr ⟨by omega, by omega, by rw [FP]; omega, p1⟩⟩
theorem Ko (x : aW) (h : Fit B20 (.base .notebook) x) : iw x = some x := by
 rw [kW] at h
 have c0 := h
 unfold iw
 rw [TN x.cells c0]
 rfl
theorem LV (x : aW) (h : Fit B24 (.base .notebook) x) : lN x x = some true := by
 rw [kW] at h
 have c0 := h
 unfold lN
 rw [Vg x.cells c0]
 simp
theorem LU (x : aW) (h : Fit B20 (.base .notebook) x) : lN x x = some true := LV x (h.mono abv)
end Go.Proofs.YtgfjbogcidlaeaaGreatDoor
/- Plain laws that hold of no one function: loops, Booleans, the first steps of a law. -/
set_option linter.unusedSimpArgs false
set_option linter.unusedVariables false
namespace Go.Proofs.YtgfjbogcidlaeaaGreatDoor
open Go.Abs Go.Proofs
theorem law1 {α : Type} {f : α -> Int -> Option Int} {P : Prop} {x : α} {c s : Nat} (h : SzK f P x c s) {k : Int -> Option Bool} (l : Int) (h0 : 0 <= l) (h1 : l <= 1048576) (hk : P -> ∀ r, 0 <= r -> r <= 1048576 -> k r = some true) :
  ((f x l).bind fun r1 => bif (decide (r1 < 0)) then some (true) else k r1) = some true := by
 obtain ⟨r, e, p⟩ := h l h0 h1
 rw [e, zA]
 rcases p with p | ⟨p, q, _, hP⟩
 ·rw [decide_eq_true p]; rfl
 ·rw [decide_eq_false (by omega), cond_false]
  exact hk hP r p (by omega)
end Go.Proofs.YtgfjbogcidlaeaaGreatDoor
