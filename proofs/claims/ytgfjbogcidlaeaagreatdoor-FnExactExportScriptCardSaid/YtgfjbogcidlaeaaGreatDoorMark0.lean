import Derived.Test.YtgfjbogcidlaeaaGreatDoorPlain2
import Derived.Test.YtgfjbogcidlaeaaGreatDoorSplit1
import Derived.Test.YtgfjbogcidlaeaaGreatDoorGraph1
/- Plain laws of the functions that mark a value and look for the marks. -/
set_option linter.unusedSimpArgs false
set_option linter.unusedVariables false
namespace Go.Proofs.YtgfjbogcidlaeaaGreatDoor
open Go.Abs Go.Proofs
theorem wO (k : Int) (h0 : 0 <= k) (h1 : k < 9223372036854775808) : ∃ t, kS k = some t := by
 unfold kS
 by_cases hk : k <= 0
 ·rw [decide_eq_true hk, cond_true]; exact ⟨_, rfl⟩
 rw [decide_eq_false hk, cond_false]
 have key : ∀ (n : Nat) (k : Int) (s : Str), 0 <= k -> k < 9223372036854775808 -> k < 10 ^ n -> s.length + n <= 40 -> ∃ t, ah (fun (x1 : Int × Str) =>
   bif (decide (x1.1 > 0)) then
    (gd ((bytesOf [w8 (w64 (48 + (x1.1.tmod 10)))]).length + x1.2.length)).bind fun _ =>
    some (.inl (w64 (x1.1.tdiv 10), (bytesOf [w8 (w64 (48 + (x1.1.tmod 10)))]) ++ x1.2))
   else
    (
     (gd ([109].length + x1.2.length)).bind fun _ =>
     some ([109] ++ x1.2)
    ).bind fun r => some (.inr r)) (k, s) = some t := by
  intro n
  induction n with
  | zero =>
   intro k s hk0 _ hk hs
   have hk' : k = 0 := by simp at hk; omega
   subst hk'
   rw [aH]
   have hg : gd ([109].length + s.length) = some () := by unfold gd; rw [if_pos (by simp; omega)]
   simp only [gt_iff_lt, Int.lt_irrefl, decide_false, cond_false, hg, zA]
   exact ⟨_, rfl⟩
  | succ n ih =>
   intro k s hk0 hk1 hk hs
   rw [aH]
   by_cases hz : k > 0
   ·have hg : gd ((bytesOf [w8 (w64 (48 + (k.tmod 10)))]).length + s.length) = some () := by unfold gd; rw [if_pos (by simp [bytesOf]; omega)]
    simp only [decide_eq_true hz, cond_true, hg, zA]
    have hd : k.tdiv 10 = k / 10 := by rw [Int.tdiv_eq_ediv_of_nonneg hk0]
    have hw : w64 (k.tdiv 10) = k / 10 := by rw [hd]; exact bG (by omega) (by omega)
    rw [hw]
    refine ih (k / 10) _ (by omega) (by omega) ?_ (by simp [bytesOf]; omega)
    have : (10 : Int) ^ (n + 1) = 10 ^ n * 10 := Int.pow_succ 10 n
    rw [this] at hk
    generalize (10 : Int) ^ n = p at hk ⊢
    omega
   ·have hg : gd ([109].length + s.length) = some () := by unfold gd; rw [if_pos (by simp; omega)]
    simp only [decide_eq_false hz, cond_false, hg, zA]
    exact ⟨_, rfl⟩
 exact key 19 k [] (by omega) h1 (by rw [show (10 : Int) ^ 19 = 10000000000000000000 from rfl]; omega) (by simp)
def ad8 {α : Type} (mark : α -> Int -> Option (α × Int)) (held : α -> Int -> Option Int) (x : α) (n : Nat) : Prop :=
 ∀ k : Int, 0 <= k -> k + n <= 4611686018427387904 -> ∃ y, mark x k = some (y, k + n) /\ held y k = some (k + n)
theorem EP {α : Type} {mk : List α -> Int -> Option (List α × Int)} {hd : List α -> Int -> Option Int} {g : List α × Int × Int -> Option ((List α × Int × Int) ⊕ (List α × Int))} {g' : List α × Int × Int -> Option ((List α × Int × Int) ⊕ Int)}
  (hmk : ∀ xs k, mk xs k = ah g (xs, 0, k)) (hhd : ∀ xs k, hd xs k = ah g' (xs, k, 0)) (cnt : α -> Nat) (P : α -> Prop)
  (hstep : ∀ (xs : List α) (i : Nat) (x : α) (k : Int), xs[i]? = some x -> P x -> xs.length < 4611686018427387904 -> 0 <= k -> k + cnt x <= 4611686018427387904 -> ∃ y, g (xs, (i : Int), k) = some (.inl (xs.set i y, ((i + 1 : Nat) : Int), k + cnt x)) /\
   ∀ ys : List α, ys.length < 4611686018427387904 -> ys[i]? = some y -> g' (ys, k, (i : Int)) = some (.inl (ys, k + cnt x, ((i + 1 : Nat) : Int))))
  (hend : ∀ (xs : List α) (k : Int), g (xs, (xs.length : Int), k) = some (.inr (xs, k))) (hend' : ∀ (xs : List α) (k : Int), g' (xs, k, (xs.length : Int)) = some (.inr k))
  (xs : List α) (hP : ∀ x, x ∈ xs -> P x) (hl : xs.length < 4611686018427387904) : ad8 mk hd xs ((xs.map cnt).sum) := by
 have key : ∀ (n : Nat) (xs : List α) (i : Nat) (k : Int), i + n = xs.length -> xs.length < 4611686018427387904 -> (∀ x, x ∈ xs.drop i -> P x) -> 0 <= k -> k + ((xs.drop i).map cnt).sum <= 4611686018427387904 ->
   ∃ ys, ah g (xs, (i : Int), k) = some (ys, k + ((xs.drop i).map cnt).sum) /\ ys.length = xs.length /\ (∀ j, j < i -> ys[j]? = xs[j]?) /\ ah g' (ys, k, (i : Int)) = some (k + ((xs.drop i).map cnt).sum) := by
  intro n
  induction n with
  | zero =>
   intro xs i k hi hl hP h0 hk
   have hi' : i = xs.length := by omega
   subst hi'
   have hd0 : xs.drop xs.length = [] := List.drop_length
   rw [hd0]
   refine ⟨xs, ?_, rfl, fun _ _ => rfl, ?_⟩
   ·rw [aH, hend]; simp
   ·rw [aH, hend']; simp
  | succ n ih =>
   intro xs i k hi hl hP h0 hk
   have hil : i < xs.length := by omega
   have hx : xs[i]? = some xs[i] := zF hil
   have hdr : xs.drop i = xs[i] :: xs.drop (i + 1) := List.drop_eq_getElem_cons hil
   rw [hdr] at hP hk ⊢
   simp only [List.map_cons, List.sum_cons] at hk ⊢
   have hcast : ((cnt xs[i] + ((xs.drop (i + 1)).map cnt).sum : Nat) : Int) = (cnt xs[i] : Int) + (((xs.drop (i + 1)).map cnt).sum : Nat) := by omega
   rw [hcast] at hk ⊢
   obtain ⟨y, hg, hg'⟩ := hstep xs i xs[i] k hx (hP _ List.mem_cons_self) hl h0 (by omega)
   have hds : (xs.set i y).drop (i + 1) = xs.drop (i + 1) := by
    rw [List.drop_set]; rw [if_pos (by omega)]
   obtain ⟨ys, e1, e2, e3, e4⟩ := ih (xs.set i y) (i + 1) (k + cnt xs[i]) (by simp; omega) (by simpa using hl) (by rw [hds]; exact fun x hx => hP x (List.mem_cons_of_mem _ hx)) (by omega) (by rw [hds]; omega)
   rw [hds] at e1 e4
   have hyl : ys.length = xs.length := by rw [e2]; simp
   refine ⟨ys, ?_, hyl, fun j hj => ?_, ?_⟩
   ·rw [aH, hg]
    simp only
    rw [e1, Int.add_assoc]
   ·rw [e3 j (by omega), List.getElem?_set, if_neg (by omega)]
   ·have hyi : ys[i]? = some y := by
     rw [e3 i (by omega), List.getElem?_set, if_pos rfl, if_pos hil]
    rw [aH, hg' ys (by omega) hyi]
    simp only
    rw [e4, Int.add_assoc]
 intro k h0 hk
 obtain ⟨ys, e1, _, _, e4⟩ := key xs.length xs 0 k (by omega) hl (by simpa using hP) h0 (by simpa using hk)
 refine ⟨ys, ?_, ?_⟩
 ·rw [hmk]; simpa using e1
 ·rw [hhd]; simpa using e4
theorem aaQ {α : Type} {xs : List α} {i : Nat} {x y : α} (h : xs[i]? = some x) : (xs.set i y)[i]? = some y := by
 rw [List.getElem?_set, if_pos rfl, if_pos (zC.1 h).1]
theorem dec_lt {α : Type} {xs : List α} {i : Nat} {x : α} (h : xs[i]? = some x) : decide ((i : Int) < (xs.length : Int)) = true := by
 have := (zC.1 h).1
 simpa using this
theorem NS {α : Type} {xs : List α} {i : Nat} {x : α} (h : xs[i]? = some x) (hl : xs.length < 4611686018427387904) : w64 ((i : Int) + 1) = ((i + 1 : Nat) : Int) := by
 have := (zC.1 h).1
 rw [bG (by omega) (by omega)]; omega
theorem Ap (a : Int) : (a != a) = false := by simp
theorem EO (a : Str) : (!(a == a)) = false := by simp
end Go.Proofs.YtgfjbogcidlaeaaGreatDoor
/- Plain laws of marks, by genmark.py. -/
set_option linter.unusedSimpArgs false
set_option linter.unusedVariables false
namespace Go.Proofs.YtgfjbogcidlaeaaGreatDoor
open Go.Abs Go.Proofs
def NJ (xs : List Str) : Prop := xs.length < 4611686018427387904
theorem Rn (a : Bool) : (!(a == a)) = false := by simp
noncomputable def D5 (a : List aV) (b : Int) : Option (Int) :=
 ah (fun (x1 : (List aV) × Int × Int) =>
  bif (decide (x1.2.2 < (x1.1.length : Int))) then
   (idx x1.1 x1.2.2).bind fun e2 =>
   bif (e2.id != x1.2.1) then
    some (.inr ((-1)))
   else
   (idx x1.1 x1.2.2).bind fun e3 =>
   bif (e3.version != (w64 (x1.2.1 + 1))) then
    some (.inr ((-1)))
   else
   (idx x1.1 x1.2.2).bind fun e4 =>
   bif (e4.kind != (w64 ((w64 (x1.2.1 + 1)) + 1))) then
    some (.inr ((-1)))
   else
   (idx x1.1 x1.2.2).bind fun e5 =>
   (kS (w64 ((w64 ((w64 (x1.2.1 + 1)) + 1)) + 1))).bind fun r6 =>
   bif (!(e5.name == r6)) then
    some (.inr ((-1)))
   else
   (idx x1.1 x1.2.2).bind fun e7 =>
   (kS (w64 ((w64 ((w64 ((w64 (x1.2.1 + 1)) + 1)) + 1)) + 1))).bind fun r8 =>
   bif (!(e7.code == r8)) then
    some (.inr ((-1)))
   else
    (idx x1.1 x1.2.2).bind fun e9 =>
    bif (e9.n != (w64 ((w64 ((w64 ((w64 ((w64 (x1.2.1 + 1)) + 1)) + 1)) + 1)) + 1))) then
     some (.inr ((-1)))
    else
     some (.inl (x1.1, w64 ((w64 ((w64 ((w64 ((w64 ((w64 (x1.2.1 + 1)) + 1)) + 1)) + 1)) + 1)) + 1), w64 (x1.2.2 + 1)))
  else
   some (.inr (x1.2.1))
 ) (a, b, 0)
noncomputable def Ce (a : aW) (b : Int) : Option (Int) :=
 (D5 a.cells b).bind fun r1 =>
 bif (decide (r1 < 0)) then
  some ((-1))
 else
  some (r1)
theorem IZ (xs : List Str) (hl : xs.length < 4611686018427387904) : ad8 qj ni xs (uS xs) := by
 refine EP (mk := qj) (hd := ni) (fun _ _ => rfl) (fun _ _ => rfl) (fun _ => 1) (fun _ => True) (fun xs i x k hx hP hl h0 hk => ?_) (fun xs k => ?_) (fun xs k => ?_) xs (fun _ _ => trivial) hl
 ·have w1 : w64 (k + 1) = k + 1 := bG (by omega) (by omega)
  obtain ⟨t1, e1⟩ := wO k (by omega) (by omega)
  refine ⟨t1, ?_, fun ys hy hyi => ?_⟩
  ·simp only [dec_lt hx, cond_true, aB, Int.toNat_natCast, hx, zA, w1, NS hx hl, e1]; rfl
  ·simp only [dec_lt hyi, cond_true, aB, hyi, zA, w1, NS hyi hy, Ap, EO, cond_false, e1]; rfl
 ·simp only [Int.lt_irrefl, decide_false, cond_false]
 ·simp only [Int.lt_irrefl, decide_false, cond_false]
theorem Q9 {xs : List Str} (h : fC B24 (.list (.base .str) xs)) : NJ xs /\ uS xs <= 16777216 := by
 have hl := UR h
 refine ⟨by unfold NJ; omega, ?_⟩
 have := TQ (fun _ => 1) xs 1 (fun _ _ => Nat.le_refl 1)
 unfold uS; omega
def Gi (x : aV) : Prop := True
def Qc (xs : List aV) : Prop := (∀ x, x ∈ xs -> Gi x) /\ xs.length < 4611686018427387904
theorem O8 (xs : List aV) (h : Qc xs) : ad8 yh D5 xs (kX xs) := by
 refine EP (mk := yh) (hd := D5) (fun _ _ => rfl) (fun _ _ => rfl) jd Gi (fun xs i x k hx hP hl h0 hk => ?_) (fun xs k => ?_) (fun xs k => ?_) xs h.1 h.2
 ·unfold jd at hk
  obtain ⟨k0, g0⟩ : ∃ m : Int, m = k + 1 := ⟨_, rfl⟩
  have w0 : w64 (k + 1) = k0 := by rw [g0]; exact bG (by omega) (by omega)
  obtain ⟨k1, g1⟩ : ∃ m : Int, m = k0 + 1 := ⟨_, rfl⟩
  have w1 : w64 (k0 + 1) = k1 := by rw [g1]; exact bG (by omega) (by omega)
  obtain ⟨k2, g2⟩ : ∃ m : Int, m = k1 + 1 := ⟨_, rfl⟩
  have w2 : w64 (k1 + 1) = k2 := by rw [g2]; exact bG (by omega) (by omega)
  obtain ⟨t3, e3⟩ := wO k2 (by omega) (by omega)
  obtain ⟨k3, g3⟩ : ∃ m : Int, m = k2 + 1 := ⟨_, rfl⟩
  have w3 : w64 (k2 + 1) = k3 := by rw [g3]; exact bG (by omega) (by omega)
  obtain ⟨t4, e4⟩ := wO k3 (by omega) (by omega)
  obtain ⟨k4, g4⟩ : ∃ m : Int, m = k3 + 1 := ⟨_, rfl⟩
  have w4 : w64 (k3 + 1) = k4 := by rw [g4]; exact bG (by omega) (by omega)
  obtain ⟨k5, g5⟩ : ∃ m : Int, m = k4 + 1 := ⟨_, rfl⟩
  have w5 : w64 (k4 + 1) = k5 := by rw [g5]; exact bG (by omega) (by omega)
  have hsum : k5 = k + (jd x : Nat) := by unfold jd; omega
  refine ⟨aV.mk k k0 k1 t3 t4 k4, ?_, fun ys hy hyi => ?_⟩
  ·simp only [dec_lt hx, cond_true, aB, Int.toNat_natCast, hx, aaQ hx, List.set_set, zA, NS hx hl, w0, w1, w2, w3, w4, w5, e3, e4, Ij, bF, MN]
   rw [hsum]
  ·simp only [dec_lt hyi, cond_true, aB, hyi, zA, NS hyi hy, Ap, EO, Rn, cond_false, w0, w1, w2, w3, w4, w5, e3, e4, Ij, bF, MN]
   rw [hsum]
 ·simp only [Int.lt_irrefl, decide_false, cond_false]
 ·simp only [Int.lt_irrefl, decide_false, cond_false]
theorem XF {xs : List aV} (h : fC B24 (.list (.base .cell) xs)) : Qc xs /\ kX xs <= 100663296 := by
 have hl := UR h
 have key : ∀ x, x ∈ xs -> Gi x /\ jd x <= 6 := by
  intro x hx
  unfold Gi jd
  exact ⟨trivial, by omega⟩
 refine ⟨⟨fun x hx => (key x hx).1, by omega⟩, ?_⟩
 have h1 := TQ jd xs 6 fun x hx => (key x hx).2
 have h2 : xs.length * 6 <= 16777216 * 6 := Nat.mul_le_mul_right _ (by omega)
 unfold kX; omega
noncomputable def gZ (x : aW) : Nat := kX x.cells
def uU (x : aW) : Prop := Qc x.cells
theorem Fq (x : aW) (h : uU x) (k : Int) (h0 : 0 <= k) (hk : k + gZ x <= 4611686018427387904) : ∃ y, nT x k = some (y, k + (gZ x : Nat)) /\ Ce y k = some (k + (gZ x : Nat)) := by
 unfold gZ at hk
 unfold uU at h
 have q0 := h
 obtain ⟨y0, e0, f0⟩ := O8 x.cells q0 (k) (by omega) (by omega)
 have n0 : decide (k + (kX x.cells : Nat) < 0) = false := decide_eq_false (by omega)
 have hsum : k + (kX x.cells : Nat) = k + (gZ x : Nat) := by unfold gZ; omega
 refine ⟨aW.mk y0, ?_, ?_⟩
 ·unfold nT; simp only [zA, e0, f0]
  rw [hsum]
 ·unfold Ce; simp only [zA, cond_false, e0, f0, n0]
  rw [hsum]
theorem OY {x : aW} (h : Fit B24 (.base .notebook) x) : uU x /\ gZ x <= 100663296 := by
 rw [kW] at h
 have c0 := h
 unfold uU gZ
 obtain ⟨p0, r0⟩ := XF c0
 exact ⟨p0, by omega⟩
end Go.Proofs.YtgfjbogcidlaeaaGreatDoor
/- Notebooks that fit. -/
set_option linter.unusedSimpArgs false
set_option linter.unusedVariables false
namespace Go.Proofs.YtgfjbogcidlaeaaGreatDoor
open Go.Abs Go.Proofs
abbrev FitC (cs : List aV) : Prop := ∀ x, x ∈ cs -> Fit B20 (.base .cell) x
theorem Yh {cs : List aV} (h : Fit B20 (.base .notebook) ⟨cs⟩) : FitC cs /\ cs.length <= 1048576 := by
 rw [kW] at h
 have hl : (cs.length : Int) <= 1048576 := Zz h
 exact ⟨fun x hx => h.BH x hx, by omega⟩
theorem aar {cs : List aV} (h : FitC cs) : ∀ x, x ∈ cs -> xH x := by
 intro x hx
 have := h x hx
 rw [SC] at this
 have s1 := ace this.2.2.2.1
 have s2 := ace this.2.2.2.2.1
 exact ⟨by omega, by omega⟩
end Go.Proofs.YtgfjbogcidlaeaaGreatDoor
/- Plain law: FnExactExportScript. -/
set_option linter.unusedSimpArgs false
set_option linter.unusedVariables false
namespace Go.Proofs.YtgfjbogcidlaeaaGreatDoor
open Go.Abs Go.Proofs
theorem rP (a : aW) (ha : Fit B47 (.base .notebook) a) : FnExactExportScript a = some true := by
 unfold FnExactExportScript
 refine law1 (Kq a ha) _ (by omega) (by omega) fun pa r1 h0 h3 => ?_
 obtain ⟨cs⟩ := a
 obtain ⟨hC, hl⟩ := Yh pa
 obtain ⟨l, e1, e2, e3, e4⟩ := Om cs hl (aar hC)
 have hf : fC B20 (.list (.base .str) l) := Rq (by omega) fun x hx d hd => by
  have hd : d = .str x := List.mem_singleton.1 hd
  subst hd
  exact O7 (by have := e4 x hx; omega)
 obtain ⟨oa, na⟩ := OY (pa.mono abv)
 obtain ⟨ol, nl⟩ := Q9 (hf.mono abv)
 obtain ⟨y1, m1, _⟩ := Fq _ oa 1 (by omega) (by omega)
 obtain ⟨y3, m3, m4⟩ := IZ l (by omega) 1 (by omega) (by omega)
 simp only [Ko _ pa, e1, e2, PV l hf, LU _ pa, m1, m3, m4, zA, Bool.not_true, cond_false,
  decide_eq_false (show ¬ (1 + (gZ ⟨cs⟩ : Nat) : Int) < 0 by omega), decide_eq_false (show ¬ (1 + (uS l : Nat) : Int) < 0 by omega), Ap]
end Go.Proofs.YtgfjbogcidlaeaaGreatDoor
