import Derived.Test.YtgfjbogcidlaeaaGreatDoorForm1
/- Plain laws: numbers with a sign, as both sides read them. -/
set_option linter.unusedSimpArgs false
set_option linter.unusedVariables false
namespace Go.Proofs.YtgfjbogcidlaeaaGreatDoor
open Go.Abs Go.Proofs
theorem abJ : ∀ (n : Nat) (s : Str) (q : Nat), 0 < n -> n < 10 ^ q -> n < 9223372036854775808 -> s.length + q <= 40 -> ah ou (-(n : Int), true, s) = some (45 :: (Go.Lib.decDigits n ++ s)) := by
 intro n
 induction n using Nat.strongRecOn with
 | _ n ih =>
  intro s q h0 hq h1 hs
  have hq0 : 0 < q := by
   rcases Nat.eq_zero_or_pos q with h | h
   ·subst h; simp at hq; omega
   ·exact h
  have e1 : (-(n : Int) != 0) = true := by simp; omega
  have em : (-(n : Int)).tmod 10 = -((n % 10 : Nat) : Int) := by
   rw [Int.neg_tmod, Int.tmod_eq_emod_of_nonneg (by omega)]; omega
  have ed : (-(n : Int)).tdiv 10 = -((n / 10 : Nat) : Int) := by
   rw [Int.neg_tdiv, Int.tdiv_eq_ediv_of_nonneg (by omega)]; omega
  have hw : w64 ((-(n : Int)).tdiv 10) = -((n / 10 : Nat) : Int) := by
   rw [ed]
   exact bG (by omega) (by omega)
  have hg : gd ([UInt8.ofNat (48 + n % 10)].length + s.length) = some () := gdp (by simp; omega)
  have hstep : ou (-(n : Int), true, s) = some (.inl (-((n / 10 : Nat) : Int), true, UInt8.ofNat (48 + n % 10) :: s)) := by
   unfold ou
   by_cases hd : n % 10 = 0
   ·have e2 : decide ((-(n : Int)).tmod 10 < 0) = false := by rw [em]; simp; omega
    have hb : bytesOf [w8 (w64 (48 + ((-(n : Int)).tmod 10)))] = [UInt8.ofNat (48 + n % 10)] := by
     rw [em, hd]; rfl
    simp only [e1, e2, cond_true, cond_false, hb, hg, zA, hw]
    rfl
   ·have e2 : decide ((-(n : Int)).tmod 10 < 0) = true := by rw [em]; simp; omega
    have e3 : w64 (0 - (-(n : Int)).tmod 10) = ((n % 10 : Nat) : Int) := by
     rw [em, bG (by omega) (by omega)]; omega
    have hb : bytesOf [w8 (w64 (48 + (w64 (0 - (-(n : Int)).tmod 10))))] = [UInt8.ofNat (48 + n % 10)] := by
     rw [e3]; exact JR _ (by omega)
    simp only [e1, e2, cond_true, cond_false, hb, hg, zA, hw]
    rfl
  rw [aH, hstep]
  simp only
  by_cases hn : n < 10
  ·have hz : n / 10 = 0 := by omega
   rw [hz, aH]
   have : ou (-((0 : Nat) : Int), true, UInt8.ofNat (48 + n % 10) :: s) = some (.inr (45 :: (UInt8.ofNat (48 + n % 10) :: s))) := by
    show ((gd ([45].length + (UInt8.ofNat (48 + n % 10) :: s).length)).bind fun _ => some (([45] : Str) ++ (UInt8.ofNat (48 + n % 10) :: s))).bind (fun r => some (Sum.inr r)) = _
    rw [gdp (by simp; omega)]
    rfl
   rw [this]
   rw [Go.Lib.decDigits, dif_pos hn, Nat.mod_eq_of_lt hn]
   rfl
  ·have hp : 10 ^ q = 10 ^ (q - 1) * 10 := by rw [<- Nat.pow_succ]; congr 1; omega
   rw [ih (n / 10) (by omega) (UInt8.ofNat (48 + n % 10) :: s) (q - 1) (by omega) (by rw [hp] at hq; generalize 10 ^ (q - 1) = p at hq ⊢; omega) (by omega) (by simp; omega)]
   conv => rhs; rw [Go.Lib.decDigits, dif_neg hn]
   simp
theorem jm (n : Int) (h0 : -9223372036854775808 < n) (h1 : n < 9223372036854775808) : di n = some (Go.Lib.itoa n) := by
 by_cases hn : 0 <= n
 ·exact yO n hn h1
 ·obtain ⟨m, rfl⟩ : ∃ m : Nat, n = -(m : Int) := ⟨n.natAbs, by omega⟩
  rw [uY]
  have e : (-(m : Int) == 0) = false := by simp; omega
  have e2 : decide (-(m : Int) < 0) = true := by simp; omega
  rw [e, e2, cond_false, abJ m [] 19 (by omega) (by have : (10 : Nat) ^ 19 = 10000000000000000000 := rfl; omega) (by omega) (by decide)]
  unfold Go.Lib.itoa
  rw [if_pos (by omega), List.append_nil]
  have : (-(m : Int)).natAbs = m := by omega
  rw [this]
theorem oz : ∀ (n : Nat), (∀ c, c ∈ Go.Lib.decDigits n -> gV c) /\ aP 0 (Go.Lib.decDigits n) = n /\ Go.Lib.decDigits n ≠ [] := by
 intro n
 induction n using Nat.strongRecOn with
 | _ n ih =>
  have hd : ∀ d, d < 10 -> (UInt8.ofNat (48 + d)).toNat = 48 + d := fun d h => by
   rw [UInt8.toNat_ofNat']; omega
  rw [Go.Lib.decDigits]
  by_cases hn : n < 10
  ·rw [dif_pos hn]
   refine ⟨fun c hc => ?_, ?_, by simp⟩
   ·rw [List.mem_singleton.1 hc]
    unfold gV
    rw [hd n hn]; omega
   ·show 0 * 10 + ((UInt8.ofNat (48 + n)).toNat - 48) = n
    rw [hd n hn]; omega
  ·rw [dif_neg hn]
   obtain ⟨h1, h2, h3⟩ := ih (n / 10) (by omega)
   refine ⟨fun c hc => ?_, ?_, by simp⟩
   ·rcases List.mem_append.1 hc with hc | hc
    ·exact h1 c hc
    ·rw [List.mem_singleton.1 hc]
     unfold gV
     rw [hd _ (by omega)]; omega
   ·unfold aP at h2 ⊢
    rw [List.foldl_append, h2]
    show n / 10 * 10 + ((UInt8.ofNat (48 + n % 10)).toNat - 48) = n
    rw [hd _ (by omega)]; omega
theorem RD (n : Nat) : Go.Lib.itoa (n : Int) = Go.Lib.decDigits n := by
 unfold Go.Lib.itoa
 rw [if_neg (by omega)]; rfl
theorem itoa_neg (n : Nat) (h : 0 < n) : Go.Lib.itoa (-(n : Int)) = 45 :: Go.Lib.decDigits n := by
 unfold Go.Lib.itoa
 rw [if_pos (by omega)]
 have : (-(n : Int)).natAbs = n := by omega
 rw [this]
theorem Eg (v : Int) (h0 : -999999999999 <= v) (h1 : v <= 999999999999) : Go.Lib.atoiAll (Go.Lib.itoa v) = .ok v := by
 by_cases hn : 0 <= v
 ·obtain ⟨n, rfl⟩ : ∃ n : Nat, v = n := ⟨v.toNat, by omega⟩
  obtain ⟨d1, d2, d3⟩ := oz n
  have hl := CG n 12 (by decide) (by omega)
  rw [RD, TB _ d1 d3 hl, d2]
 ·obtain ⟨n, rfl⟩ : ∃ n : Nat, v = -(n : Int) := ⟨v.natAbs, by omega⟩
  obtain ⟨d1, d2, d3⟩ := oz n
  have hl := CG n 12 (by decide) (by omega)
  rw [itoa_neg n (by omega)]
  have hp : 10 ^ (Go.Lib.decDigits n).length <= 10 ^ 12 := Nat.pow_le_pow_right (by decide) hl
  unfold Go.Lib.atoiAll
  simp only
  rw [if_pos (.inr rfl)]
  unfold Go.Lib.parseMag
  rw [if_neg d3, qI _ 0 d1 (by omega), d2]
  simp only
  have e : ((45 : UInt8).toNat = 45) = True := by simp
  rw [if_neg (fun h => h.1 rfl), if_neg (fun h => by have := h.2; omega), if_pos (show UInt8.toNat 45 = 45 from rfl)]
theorem EW (t : Str) (lo hi : Int) (hl : t.length <= 34359738368) (hlo : -999999999999 <= lo) (hhi : hi <= 999999999999) :
  ∃ v ok, jL t lo hi = some (v, ok) /\ (ok = true -> Go.Lib.itoa v = t /\ lo <= v /\ v <= hi) /\ (ok = false -> v = 0 /\ ∀ u, lo <= u -> u <= hi -> Go.Lib.itoa u ≠ t) := by
 unfold jL mY
 rw [gdp hl, zA]
 have no : ∀ u, lo <= u -> u <= hi -> Go.Lib.itoa u = t -> Go.Lib.atoiAll t = .ok u := fun u h0 h1 e => by rw [<- e]; exact Eg u (by omega) (by omega)
 cases h : Go.Lib.atoiAll t with
 | ok v =>
  simp only
  by_cases hc : v < lo \/ hi < v \/ Go.Lib.itoa v ≠ t
  ·rw [if_pos hc]
   refine ⟨0, false, rfl, fun h => (by cases h), fun _ => ⟨rfl, fun u h0 h1 e => ?_⟩⟩
   have := no u h0 h1 e
   rw [h] at this
   injection this with this
   subst this
   rcases hc with hc | hc | hc
   ·omega
   ·omega
   ·exact hc e
  ·rw [if_neg hc]
   refine ⟨v, true, rfl, fun _ => ⟨?_, by omega, by omega⟩, fun h => (by cases h)⟩
   rcases Decidable.em (Go.Lib.itoa v = t) with e | e
   ·exact e
   ·exact absurd (.inr (.inr e)) hc
 | range => exact ⟨0, false, rfl, fun h => (by cases h), fun _ => ⟨rfl, fun u h0 h1 e => by have := no u h0 h1 e; rw [h] at this; cases this⟩⟩
 | _ => exact ⟨0, false, rfl, fun h => (by cases h), fun _ => ⟨rfl, fun u h0 h1 e => by have := no u h0 h1 e; rw [h] at this; cases this⟩⟩
abbrev RdX := Str × Bool × Str × Int × Int
noncomputable def zM : RdX -> Option (RdX ⊕ (Int × Bool)) := (fun (x3 : Str × Bool × Str × Int × Int) =>
      bif (decide (x3.2.2.2.2 < (x3.2.2.1.length : Int))) then
       (idx x3.2.2.1 x3.2.2.2.2).bind fun c4 =>
       bif (decide ((c4.toNat : Int) < 48)) then
        some (.inr (0, false))
       else
        (idx x3.2.2.1 x3.2.2.2.2).bind fun c5 =>
        bif (decide ((c5.toNat : Int) > 57)) then
         some (.inr (0, false))
        else
         (idx x3.2.2.1 x3.2.2.2.2).bind fun c6 =>
         some (.inl (x3.1, x3.2.1, x3.2.2.1, w64 ((w64 (10 * x3.2.2.2.1)) + (w64 (w8 ((c6.toNat : Int) - 48)))), w64 (x3.2.2.2.2 + 1)))
      else
      (
       bif x3.2.1 then
        (di (w64 (0 - x3.2.2.2.1))).bind fun r7 =>
        bif (!(r7 == x3.1)) then
         some (0, false)
        else
         some (w64 (0 - x3.2.2.2.1), true)
       else
        (di x3.2.2.2.1).bind fun r8 =>
        bif (!(r8 == x3.1)) then
         some (0, false)
        else
         some (x3.2.2.2.1, true)
      ).bind fun r => some (.inr r)
  )
def sgn (B : Bool) (n : Nat) : Int := if B = true then -(n : Int) else n
def JL (s : Str) (B : Bool) (n : Nat) : Int × Bool := if Go.Lib.itoa (sgn B n) = s then (sgn B n, true) else (0, false)
theorem NU (a : Str) (c : UInt8) : aP 0 (a ++ [c]) = aP 0 a * 10 + (c.toNat - 48) := by
 unfold aP
 rw [List.foldl_append]; rfl
theorem Y6 (s u : Str) (B : Bool) (hl : u.length <= 12) : ∃ r, ah zM (s, B, u, 0, 0) = some r /\ ((r = (0, false) /\ ∃ c, c ∈ u /\ ¬ gV c) \/ ((∀ c, c ∈ u -> gV c) /\ r = JL s B (aP 0 u))) := by
 have hb : ∀ i, i <= u.length -> (∀ c, c ∈ u.take i -> gV c) -> aP 0 (u.take i) < 10 ^ 12 := fun i hi h => by
  have h1 := oQ (u.take i) 0 h
  have h2 : 10 ^ (u.take i).length <= 10 ^ 12 := Nat.pow_le_pow_right (by decide) (by rw [List.length_take]; omega)
  omega
 refine bH (g := zM) (fun (n : Int) (i : Nat) => ((s, B, u, n, (i : Int)) : RdX)) u (fun i n => (∀ c, c ∈ u.take i -> gV c) /\ n = (aP 0 (u.take i) : Int)) _ (fun i c n hc hI => ?_) (fun n hI => ?_) 0 ⟨by simp, by simp [aP]⟩
 ·obtain ⟨i1, rfl⟩ := hI
  have hi := (zC.1 hc).1
  have hv := hb i (by omega) i1
  have ht : u.take (i + 1) = u.take i ++ [c] := by
   obtain ⟨hi, rfl⟩ := zC.1 hc
   rw [List.take_succ_eq_append_getElem hi]
  simp only [zM, bK hc, cond_true, aB, hc, zA, bI hc (by omega)]
  by_cases h1 : c.toNat < 48
  ·have e : decide ((c.toNat : Int) < 48) = true := by simp; omega
   rw [e]
   exact .inr ⟨_, rfl, .inl ⟨rfl, c, zG hc, fun h => by unfold gV at h; omega⟩⟩
  ·have e : decide ((c.toNat : Int) < 48) = false := by simp; omega
   rw [e]
   by_cases h2 : c.toNat > 57
   ·have e2 : decide ((c.toNat : Int) > 57) = true := by simp; omega
    rw [e2]
    exact .inr ⟨_, rfl, .inl ⟨rfl, c, zG hc, fun h => by unfold gV at h; omega⟩⟩
   ·have e2 : decide ((c.toNat : Int) > 57) = false := by simp; omega
    rw [e2]
    have e8 : w8 ((c.toNat : Int) - 48) = ((c.toNat - 48 : Nat) : Int) := by
     simp only [w8, IntKind.wrap, IntKind.bits, IntKind.signed]
     simp
     omega
    have ew : w64 (w64 (10 * ((aP 0 (u.take i) : Nat) : Int)) + w64 (w8 ((c.toNat : Int) - 48))) = ((aP 0 (u.take (i + 1)) : Nat) : Int) := by
     rw [e8, ht, NU, bG (n := 10 * _) (by omega) (by omega), bG (n := ((c.toNat - 48 : Nat) : Int)) (by omega) (by omega), bG (by omega) (by omega)]
     omega
    refine .inl ⟨_, by simp only [cond_false, ew], fun d hd => ?_, rfl⟩
    rw [ht] at hd
    rcases List.mem_append.1 hd with hd | hd
    ·exact i1 d hd
    ·rw [List.mem_singleton.1 hd]
     unfold gV; omega
 ·obtain ⟨i1, rfl⟩ := hI
  have hv := hb u.length (Nat.le_refl _) i1
  rw [List.take_length] at i1 hv ⊢
  refine ⟨JL s B (aP 0 u), ?_, .inr ⟨i1, rfl⟩⟩
  simp only [zM, bC, cond_false]
  unfold JL
  cases B with
  | true =>
   have e : w64 (0 - ((aP 0 u : Nat) : Int)) = sgn true (aP 0 u) := by
    rw [bG (by omega) (by omega)]
    unfold sgn
    rw [if_pos rfl]; omega
   simp only [cond_true, e]
   rw [jm _ (by unfold sgn; rw [if_pos rfl]; omega) (by unfold sgn; rw [if_pos rfl]; omega), zA]
   by_cases h : Go.Lib.itoa (sgn true (aP 0 u)) = s
   ·have : (Go.Lib.itoa (sgn true (aP 0 u)) == s) = true := by simp [h]
    rw [if_pos h, this]; rfl
   ·have : (Go.Lib.itoa (sgn true (aP 0 u)) == s) = false := by simpa using h
    rw [if_neg h, this]; rfl
  | false =>
   have e : sgn false (aP 0 u) = ((aP 0 u : Nat) : Int) := rfl
   rw [e]
   simp only [cond_false]
   rw [jm _ (by omega) (by omega), zA]
   by_cases h : Go.Lib.itoa ((aP 0 u : Nat) : Int) = s
   ·have : (Go.Lib.itoa ((aP 0 u : Nat) : Int) == s) = true := by simp [h]
    rw [if_pos h, this]; rfl
   ·have : (Go.Lib.itoa ((aP 0 u : Nat) : Int) == s) = false := by simpa using h
    rw [if_neg h, this]; rfl
theorem YN (a : Str) (b : Int) : xU a b = bif (decide ((a.length : Int) > 0)) then
  ((idx a 0).bind fun c1 =>
  bif ((c1.toNat : Int) == 45) then
   ((eff.cutL a (some 1) none).bind fun r2 =>
   bif (decide ((r2.length : Int) < 1)) then some (0, false)
   else bif (decide ((r2.length : Int) > b)) then some (0, false)
   else ah zM (a, ((c1.toNat : Int) == 45), r2, 0, 0))
  else
  bif (decide ((a.length : Int) < 1)) then some (0, false)
  else bif (decide ((a.length : Int) > b)) then some (0, false)
  else ah zM (a, ((c1.toNat : Int) == 45), a, 0, 0))
 else
 bif (decide ((a.length : Int) < 1)) then some (0, false)
 else bif (decide ((a.length : Int) > b)) then some (0, false)
 else ah zM (a, false, a, 0, 0) := rfl
theorem JK (s : Str) (B : Bool) (n : Nat) (h : n < 10 ^ 12) : -999999999999 <= (JL s B n).1 /\ (JL s B n).1 <= 999999999999 := by
 unfold JL
 split
 ·show -999999999999 <= sgn B n /\ sgn B n <= 999999999999
  unfold sgn
  split <;> omega
 ·exact ⟨by decide, by decide⟩
theorem Nv (u : Str) (hl : u.length <= 12) (h : ∀ c, c ∈ u -> gV c) : aP 0 u < 10 ^ 12 := by
 have h1 := oQ u 0 h
 have h2 : 10 ^ u.length <= 10 ^ 12 := Nat.pow_le_pow_right (by decide) hl
 omega
theorem Nk (s : Str) (B : Bool) (n : Nat) : ((JL s B n).2 = true -> Go.Lib.itoa (JL s B n).1 = s) /\ ((JL s B n).2 = false -> (JL s B n).1 = 0 /\ Go.Lib.itoa (sgn B n) ≠ s) := by
 unfold JL
 split
 ·rename_i h; exact ⟨fun _ => h, fun h => by cases h⟩
 ·rename_i h; exact ⟨fun h => (by cases h), fun _ => ⟨rfl, h⟩⟩
theorem GY (t : Str) (hl : t.length <= 34359738368) :
  ∃ v ok, iG t = some (v, ok) /\ (ok = true -> Go.Lib.itoa v = t /\ -999999999999 <= v /\ v <= 999999999999) /\ (ok = false -> v = 0 /\ ∀ u, -999999999999 <= u -> u <= 999999999999 -> Go.Lib.itoa u ≠ t) := by
 have key : ∃ r, xU t 12 = some r /\ (r.2 = true -> Go.Lib.itoa r.1 = t /\ -999999999999 <= r.1 /\ r.1 <= 999999999999) /\ (r.2 = false -> r.1 = 0 /\ ∀ u, -999999999999 <= u -> u <= 999999999999 -> Go.Lib.itoa u ≠ t) := by
  have no : (∀ u, -999999999999 <= u -> u <= 999999999999 -> Go.Lib.itoa u ≠ t) -> ∃ r, (some (0, false) : Option (Int × Bool)) = some r /\ (r.2 = true -> Go.Lib.itoa r.1 = t /\ -999999999999 <= r.1 /\ r.1 <= 999999999999) /\ (r.2 = false -> r.1 = 0 /\ ∀ u, -999999999999 <= u -> u <= 999999999999 -> Go.Lib.itoa u ≠ t) := fun h => ⟨_, rfl, fun h => (by cases h), fun _ => ⟨rfl, h⟩⟩
  have pos : ∀ u : Int, -999999999999 <= u -> u <= 999999999999 -> (∃ n : Nat, u = n /\ Go.Lib.itoa u = Go.Lib.decDigits n /\ n < 10 ^ 12) \/ ∃ n : Nat, 0 < n /\ u = -(n : Int) /\ Go.Lib.itoa u = 45 :: Go.Lib.decDigits n /\ n < 10 ^ 12 := by
   intro u h0 h1
   by_cases hn : 0 <= u
   ·obtain ⟨n, rfl⟩ : ∃ n : Nat, u = n := ⟨u.toNat, by omega⟩
    exact .inl ⟨n, rfl, RD n, by omega⟩
   ·obtain ⟨n, rfl⟩ : ∃ n : Nat, u = -(n : Int) := ⟨u.natAbs, by omega⟩
    exact .inr ⟨n, by omega, rfl, itoa_neg n (by omega), by omega⟩
  rw [YN]
  cases t with
  | nil =>
   refine no fun u h0 h1 e => ?_
   rcases pos u h0 h1 with ⟨n, _, e2, _⟩ | ⟨n, _, _, e2, _⟩
   ·rw [e2] at e; exact (oz n).2.2 e
   ·rw [e2] at e; cases e
  | cons c r =>
   have d0 : decide (((c :: r).length : Int) > 0) = true := by simp
   have hid : idx (c :: r) 0 = some c := rfl
   rw [d0]
   simp only [cond_true, hid, zA]
   have hrl : r.length <= 34359738368 := by simp at hl; omega
   by_cases h45 : c.toNat = 45
   ·have hc : c = 45 := UInt8.toNat_inj.1 h45
    have e45 : ((c.toNat : Int) == 45) = true := by simp; omega
    have hcut : eff.cutL (c :: r) (some 1) none = some r := xC (c :: r) 1 (by simp)
    simp only [e45, cond_true, hcut, zA]
    have dig : ∀ u, -999999999999 <= u -> u <= 999999999999 -> Go.Lib.itoa u = c :: r -> ∃ n : Nat, 0 < n /\ u = -(n : Int) /\ r = Go.Lib.decDigits n /\ n < 10 ^ 12 := by
     intro u h0 h1 e
     rcases pos u h0 h1 with ⟨n, _, e2, _⟩ | ⟨n, hn, hu, e2, hb⟩
     ·rw [e2] at e
      have := (oz n).1 c (by rw [e]; simp)
      unfold gV at this
      omega
     ·rw [e2] at e
      injection e with _ e
      exact ⟨n, hn, hu, e.symm, hb⟩
    by_cases hr0 : r.length = 0
    ·have e1 : decide ((r.length : Int) < 1) = true := by simp; omega
     rw [e1]
     refine no fun u h0 h1 e => ?_
     obtain ⟨n, _, _, hr, _⟩ := dig u h0 h1 e
     rw [List.length_eq_zero_iff.1 hr0] at hr
     exact (oz n).2.2 hr.symm
    ·have e1 : decide ((r.length : Int) < 1) = false := by simp; omega
     rw [e1]
     by_cases h12 : r.length <= 12
     ·have e2 : decide ((r.length : Int) > 12) = false := by simp; omega
      rw [e2]
      simp only [cond_false]
      obtain ⟨x, hx, hR⟩ := Y6 (c :: r) r true h12
      refine ⟨x, hx, ?_⟩
      rcases hR with ⟨rfl, d, hd, hnd⟩ | ⟨hall, rfl⟩
      ·refine ⟨fun h => (by cases h), fun _ => ⟨rfl, fun u h0 h1 e => ?_⟩⟩
       obtain ⟨n, _, _, hr, _⟩ := dig u h0 h1 e
       rw [hr] at hd
       exact hnd ((oz n).1 d hd)
      ·obtain ⟨s1, s2⟩ := Nk (c :: r) true (aP 0 r)
       refine ⟨fun h => ⟨s1 h, JK _ _ _ (Nv r h12 hall)⟩, fun h => ⟨(s2 h).1, fun u h0 h1 e => ?_⟩⟩
       obtain ⟨n, _, hu, hr, _⟩ := dig u h0 h1 e
       have : aP 0 r = n := by rw [hr]; exact (oz n).2.1
       apply (s2 h).2
       rw [this, <- e, hu]; rfl
     ·have e2 : decide ((r.length : Int) > 12) = true := by simp; omega
      rw [e2]
      refine no fun u h0 h1 e => ?_
      obtain ⟨n, _, _, hr, hb⟩ := dig u h0 h1 e
      have := CG n 12 (by decide) hb
      rw [<- hr] at this
      exact h12 this
   ·have e45 : ((c.toNat : Int) == 45) = false := by simp; omega
    have e1 : decide (((c :: r).length : Int) < 1) = false := by simp; omega
    simp only [e45, cond_false, e1]
    have dig : ∀ u, -999999999999 <= u -> u <= 999999999999 -> Go.Lib.itoa u = c :: r -> ∃ n : Nat, u = (n : Int) /\ c :: r = Go.Lib.decDigits n /\ n < 10 ^ 12 := by
     intro u h0 h1 e
     rcases pos u h0 h1 with ⟨n, hu, e2, hb⟩ | ⟨n, hn, hu, e2, hb⟩
     ·rw [e2] at e
      exact ⟨n, hu, e.symm, hb⟩
     ·rw [e2] at e
      injection e with e _
      exact absurd (by rw [<- e]; rfl) h45
    by_cases h12 : (c :: r).length <= 12
    ·have e2 : decide (((c :: r).length : Int) > 12) = false := by simp at h12 ⊢; omega
     rw [e2]
     simp only [cond_false]
     obtain ⟨x, hx, hR⟩ := Y6 (c :: r) (c :: r) false h12
     refine ⟨x, hx, ?_⟩
     rcases hR with ⟨rfl, d, hd, hnd⟩ | ⟨hall, rfl⟩
     ·refine ⟨fun h => (by cases h), fun _ => ⟨rfl, fun u h0 h1 e => ?_⟩⟩
      obtain ⟨n, _, hr, _⟩ := dig u h0 h1 e
      rw [hr] at hd
      exact hnd ((oz n).1 d hd)
     ·obtain ⟨s1, s2⟩ := Nk (c :: r) false (aP 0 (c :: r))
      refine ⟨fun h => ⟨s1 h, JK _ _ _ (Nv (c :: r) h12 hall)⟩, fun h => ⟨(s2 h).1, fun u h0 h1 e => ?_⟩⟩
      obtain ⟨n, hu, hr, _⟩ := dig u h0 h1 e
      have : aP 0 (c :: r) = n := by rw [hr]; exact (oz n).2.1
      apply (s2 h).2
      rw [this, <- e, hu]; rfl
    ·have e2 : decide (((c :: r).length : Int) > 12) = true := by simp at h12 ⊢; omega
     rw [e2]
     refine no fun u h0 h1 e => ?_
     obtain ⟨n, _, hr, hb⟩ := dig u h0 h1 e
     have := CG n 12 (by decide) hb
     rw [<- hr] at this
     exact h12 this
 obtain ⟨⟨v, ok⟩, e, h1, h2⟩ := key
 refine ⟨v, ok, ?_, h1, h2⟩
 unfold iG
 rw [e]
 rfl
theorem RG {u v : Int} (hu : -999999999999 <= u /\ u <= 999999999999) (h : Go.Lib.itoa u = Go.Lib.itoa v) (hv : -999999999999 <= v /\ v <= 999999999999) : u = v := by
 have h1 := Eg u hu.1 hu.2
 have h2 := Eg v hv.1 hv.2
 rw [h, h2] at h1
 injection h1 with h1
 exact h1.symm
end Go.Proofs.YtgfjbogcidlaeaaGreatDoor
