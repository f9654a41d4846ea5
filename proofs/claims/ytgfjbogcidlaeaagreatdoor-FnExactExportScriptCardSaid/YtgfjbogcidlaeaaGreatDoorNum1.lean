import Derived.Test.YtgfjbogcidlaeaaGreatDoorNames2
/- Plain laws: the text of a number. Plain laws: digits read as a number. -/
set_option linter.unusedSimpArgs false
set_option linter.unusedVariables false
namespace Go.Proofs.YtgfjbogcidlaeaaGreatDoor
open Go.Abs Go.Proofs
noncomputable def ou : Int × Bool × Str -> Option ((Int × Bool × Str) ⊕ Str) := fun x1 =>
  bif (x1.1 != 0) then
   bif (decide ((x1.1.tmod 10) < 0)) then
    (gd ((bytesOf [w8 (w64 (48 + (w64 (0 - (x1.1.tmod 10)))))]).length + x1.2.2.length)).bind fun _ =>
    some (.inl (w64 (x1.1.tdiv 10), x1.2.1, (bytesOf [w8 (w64 (48 + (w64 (0 - (x1.1.tmod 10)))))]) ++ x1.2.2))
   else
    (gd ((bytesOf [w8 (w64 (48 + (x1.1.tmod 10)))]).length + x1.2.2.length)).bind fun _ =>
    some (.inl (w64 (x1.1.tdiv 10), x1.2.1, (bytesOf [w8 (w64 (48 + (x1.1.tmod 10)))]) ++ x1.2.2))
  else
   (
    bif x1.2.1 then
     (gd ([45].length + x1.2.2.length)).bind fun _ =>
     some ([45] ++ x1.2.2)
    else
     some (x1.2.2)
   ).bind fun r => some (.inr r)
theorem uY (a : Int) : di a = bif (a == 0) then some [48] else ah ou (a, decide (a < 0), []) := rfl
theorem JR (d : Nat) (h : d < 10) : bytesOf [w8 (w64 (48 + (d : Int)))] = [UInt8.ofNat (48 + d)] := by
 have e1 : w64 (48 + (d : Int)) = ((48 + d : Nat) : Int) := by
  simp only [w64, IntKind.wrap, IntKind.bits, IntKind.signed]
  simp
  omega
 have e2 : w8 ((48 + d : Nat) : Int) = ((48 + d : Nat) : Int) := by
  simp only [w8, IntKind.wrap, IntKind.bits, IntKind.signed]
  simp
  omega
 rw [e1, e2]
 show [UInt8.ofNat ((48 + d : Nat) : Int).toNat] = _
 rw [Int.toNat_natCast]
theorem abK : ∀ (n : Nat) (s : Str) (q : Nat), 0 < n -> n < 10 ^ q -> n < 9223372036854775808 -> s.length + q <= 40 -> ah ou ((n : Int), false, s) = some (Go.Lib.decDigits n ++ s) := by
 intro n
 induction n using Nat.strongRecOn with
 | _ n ih =>
  intro s q h0 hq h1 hs
  have hq0 : 0 < q := by
   rcases Nat.eq_zero_or_pos q with h | h
   ·subst h; simp at hq; omega
   ·exact h
  have e1 : ((n : Int) != 0) = true := by simp; omega
  have em : (n : Int).tmod 10 = ((n % 10 : Nat) : Int) := by
   rw [Int.tmod_eq_emod_of_nonneg (by omega)]; omega
  have ed : (n : Int).tdiv 10 = ((n / 10 : Nat) : Int) := by
   rw [Int.tdiv_eq_ediv_of_nonneg (by omega)]; omega
  have e2 : decide ((n : Int).tmod 10 < 0) = false := by rw [em]; simp; omega
  have hw : w64 ((n : Int).tdiv 10) = ((n / 10 : Nat) : Int) := by
   rw [ed]
   simp only [w64, IntKind.wrap, IntKind.bits, IntKind.signed]
   simp
   omega
  have hg : gd ([UInt8.ofNat (48 + n % 10)].length + s.length) = some () := by
   unfold gd; simp; omega
  have hb : bytesOf [w8 (w64 (48 + ((n : Int).tmod 10)))] = [UInt8.ofNat (48 + n % 10)] := by rw [em]; exact JR _ (by omega)
  have hstep : ou ((n : Int), false, s) = some (.inl (((n / 10 : Nat) : Int), false, UInt8.ofNat (48 + n % 10) :: s)) := by
   unfold ou
   simp only [e1, e2, cond_true, cond_false, hb, hg, zA, hw]
   rfl
  rw [aH, hstep]
  simp only
  by_cases hn : n < 10
  ·have hz : n / 10 = 0 := by omega
   rw [hz, aH]
   have : ou (((0 : Nat) : Int), false, UInt8.ofNat (48 + n % 10) :: s) = some (.inr (UInt8.ofNat (48 + n % 10) :: s)) := rfl
   rw [this]
   rw [Go.Lib.decDigits, dif_pos hn, Nat.mod_eq_of_lt hn]
   rfl
  ·have hp : 10 ^ q = 10 ^ (q - 1) * 10 := by rw [<- Nat.pow_succ]; congr 1; omega
   rw [ih (n / 10) (by omega) (UInt8.ofNat (48 + n % 10) :: s) (q - 1) (by omega) (by rw [hp] at hq; generalize 10 ^ (q - 1) = p at hq ⊢; omega) (by omega) (by simp; omega)]
   conv => rhs; rw [Go.Lib.decDigits, dif_neg hn]
   simp
theorem yO (n : Int) (h0 : 0 <= n) (h1 : n < 9223372036854775808) : di n = some (Go.Lib.itoa n) := by
 rw [uY]
 obtain ⟨m, rfl⟩ := Int.eq_ofNat_of_zero_le h0
 have hi : Go.Lib.itoa (m : Int) = Go.Lib.decDigits m := by unfold Go.Lib.itoa; rw [if_neg (by omega)]; rfl
 by_cases hz : m = 0
 ·subst hz
  rw [hi, Go.Lib.decDigits, dif_pos (by decide)]; rfl
 ·have e : ((m : Int) == 0) = false := by simp; omega
  have e2 : decide ((m : Int) < 0) = false := by simp
  rw [e, e2, cond_false, abK m [] 19 (by omega) (by have : (10 : Nat) ^ 19 = 10000000000000000000 := rfl; omega) (by omega) (by decide), hi]
  simp
def gV (c : UInt8) : Prop := 48 <= c.toNat /\ c.toNat <= 57
def aP (acc : Nat) (t : Str) : Nat := t.foldl (fun a c => a * 10 + (c.toNat - 48)) acc
theorem oQ : ∀ (t : Str) (acc : Nat), (∀ c, c ∈ t -> gV c) -> aP acc t < (acc + 1) * 10 ^ t.length
 | [], acc, _ => by simp [aP]
 | c :: r, acc, h => by
  have hc := h c (by simp)
  have := oQ r (acc * 10 + (c.toNat - 48)) (fun d hd => h d (by simp [hd]))
  have e : aP acc (c :: r) = aP (acc * 10 + (c.toNat - 48)) r := rfl
  rw [e]
  refine Nat.lt_of_lt_of_le this ?_
  have e2 : 10 ^ (c :: r).length = 10 * 10 ^ r.length := by rw [List.length_cons, Nat.pow_succ, Nat.mul_comm]
  rw [e2, <- Nat.mul_assoc]
  refine Nat.mul_le_mul_right _ ?_
  unfold gV at hc
  omega
theorem qI : ∀ (t : Str) (acc : Nat), (∀ c, c ∈ t -> gV c) -> (acc + 1) * 10 ^ t.length <= 1000000000000000 -> Go.Lib.parseUint10 acc t = .ok (aP acc t)
 | [], acc, _, _ => rfl
 | c :: r, acc, h, hb => by
  have hc := h c (by simp)
  unfold gV at hc
  have e2 : 10 ^ (c :: r).length = 10 * 10 ^ r.length := by rw [List.length_cons, Nat.pow_succ, Nat.mul_comm]
  rw [e2, <- Nat.mul_assoc] at hb
  have hp : 1 <= 10 ^ r.length := Nat.one_le_pow _ _ (by decide)
  have hacc : (acc + 1) * 10 <= 1000000000000000 := by
   refine Nat.le_trans ?_ hb
   exact Nat.le_mul_of_pos_right _ hp
  unfold Go.Lib.parseUint10
  rw [if_pos hc, if_neg (by omega), if_neg (by omega)]
  rw [qI r (acc * 10 + (c.toNat - 48)) (fun d hd => h d (by simp [hd])) ?_]
  ·rfl
  ·refine Nat.le_trans ?_ hb
   exact Nat.mul_le_mul_right _ (by omega)
theorem TB (t : Str) (h : ∀ c, c ∈ t -> gV c) (h0 : t ≠ []) (hl : t.length <= 12) : Go.Lib.atoiAll t = .ok (aP 0 t : Int) := by
 obtain ⟨c, r, rfl⟩ := List.exists_cons_of_ne_nil h0
 have hc := h c (by simp)
 unfold gV at hc
 have hp : 10 ^ (c :: r).length <= 10 ^ 12 := Nat.pow_le_pow_right (by decide) hl
 have hv := oQ (c :: r) 0 h
 unfold Go.Lib.atoiAll
 simp only
 rw [if_neg (by omega)]
 unfold Go.Lib.parseMag
 rw [if_neg h0, qI (c :: r) 0 h (by omega)]
 simp only
 rw [if_neg (by omega), if_neg (by omega), if_neg (by omega)]
def YA (s : Int) (c : UInt8) : Int := w64 (w64 (10 * s) + w64 (w8 ((c.toNat : Int) - 48)))
theorem Yz (n : Nat) (c : UInt8) (hc : gV c) (hn : n <= 1000000000000000) : YA (n : Int) c = ((n * 10 + (c.toNat - 48) : Nat) : Int) := by
 unfold gV at hc
 have e1 : w64 (10 * (n : Int)) = ((10 * n : Nat) : Int) := by
  simp only [w64, IntKind.wrap, IntKind.bits, IntKind.signed]
  simp
  omega
 have e2 : w8 ((c.toNat : Int) - 48) = ((c.toNat - 48 : Nat) : Int) := by
  simp only [w8, IntKind.wrap, IntKind.bits, IntKind.signed]
  simp
  omega
 have e3 : w64 ((c.toNat - 48 : Nat) : Int) = ((c.toNat - 48 : Nat) : Int) := by
  simp only [w64, IntKind.wrap, IntKind.bits, IntKind.signed]
  simp
  omega
 unfold YA
 rw [e1, e2, e3]
 simp only [w64, IntKind.wrap, IntKind.bits, IntKind.signed]
 simp
 omega
theorem SA {ρ : Type} (fin : Int -> Option ρ) : ∀ (ys : Str) (i n : Nat), (∀ c, c ∈ ys -> gV c) -> (n + 1) * 10 ^ ys.length <= 1000000000000000 ->
  Ea (fun (c : UInt8) _ (s : Int) => some (.inl (YA s c))) fin ys i (n : Int) = fin (aP n ys : Int)
 | [], i, n, _, _ => rfl
 | c :: r, i, n, h, hb => by
  have hc := h c (by simp)
  have e2 : 10 ^ (c :: r).length = 10 * 10 ^ r.length := by rw [List.length_cons, Nat.pow_succ, Nat.mul_comm]
  rw [e2, <- Nat.mul_assoc] at hb
  have hp : 1 <= 10 ^ r.length := Nat.one_le_pow _ _ (by decide)
  have hacc : (n + 1) * 10 <= 1000000000000000 := Nat.le_trans (Nat.le_mul_of_pos_right _ hp) hb
  unfold Ea
  rw [Yz n c hc (by omega)]
  simp only
  have := SA fin r (i + 1) (n * 10 + (c.toNat - 48)) (fun d hd => h d (by simp [hd])) (Nat.le_trans (Nat.mul_le_mul_right _ (by unfold gV at hc; omega)) hb)
  rw [this]
  rfl
theorem Xc (t : Str) (h : ∀ c, c ∈ t -> gV c) (h0 : t ≠ []) (hb : t.length <= 1000) : xU t 12 = some (if t.length <= 12 /\ Go.Lib.itoa (aP 0 t : Int) = t then ((aP 0 t : Int), true) else (0, false)) := by
 have hl0 : 0 < t.length := List.length_pos_iff.2 h0
 have hc0 : ∃ c, t[0]? = some c /\ gV c := ⟨t[0], zF hl0, h _ (List.getElem_mem hl0)⟩
 obtain ⟨c, hc, hcd⟩ := hc0
 have hcd' := hcd
 unfold gV at hcd'
 have d0 : decide ((t.length : Int) > 0) = true := by simp; omega
 have d1 : decide ((t.length : Int) < 1) = false := by simp; omega
 have d2 : ((c.toNat : Int) == 45) = false := by simp; omega
 have hid : idx t 0 = some c := by have := aB t 0; rw [hc] at this; exact this
 unfold xU
 rw [d0, d1]
 simp only [cond_true, cond_false, hid, zA, d2]
 by_cases hl : t.length <= 12
 ·have d3 : decide ((t.length : Int) > 12) = false := by simp; omega
  rw [d3]
  simp only [cond_false]
  have hp : 10 ^ t.length <= 10 ^ 12 := Nat.pow_le_pow_right (by decide) hl
  have hv := oQ t 0 h
  have key := SA (fun s => (di s).bind fun r14 => bif (!(r14 == t)) then some ((0 : Int), false) else some (s, true)) t 0 0 h (by omega)
  have hf := yO (aP 0 t : Int) (by omega) (by omega)
  simp only [hf, zA] at key
  have fin : (bif (!(Go.Lib.itoa (aP 0 t : Int) == t)) then some ((0 : Int), false) else some ((aP 0 t : Int), true)) = some (if t.length <= 12 /\ Go.Lib.itoa (aP 0 t : Int) = t then ((aP 0 t : Int), true) else (0, false)) := by
   by_cases he : Go.Lib.itoa (aP 0 t : Int) = t
   ·rw [if_pos ⟨hl, he⟩]
    have : (Go.Lib.itoa (aP 0 t : Int) == t) = true := by simp [he]
    rw [this]; rfl
   ·rw [if_neg (fun q => he q.2)]
    have : (Go.Lib.itoa (aP 0 t : Int) == t) = false := by simpa using he
    rw [this]; rfl
  rw [<- fin, <- key]
  refine rM (fun (s : Int) i => (t, false, t, s, (i : Int))) t _ _ ?_ ?_ 0
  ·intro i x s hx
   have hi : i < t.length := (zC.1 hx).1
   have hxd := h x (zG hx)
   unfold gV at hxd
   have e1 : w64 ((i : Int) + 1) = ((i + 1 : Nat) : Int) := by rw [bG (by omega) (by omega)]; rfl
   have e2 : decide ((i : Int) < (t.length : Int)) = true := by simp; omega
   have e3 : decide ((x.toNat : Int) < 48) = false := by simp; omega
   have e4 : decide ((x.toNat : Int) > 57) = false := by simp; omega
   simp only [aB, hx, zA, e1, e2, e3, e4, cond_true, cond_false]
   rfl
  ·intro s
   simp
 ·have d3 : decide ((t.length : Int) > 12) = true := by simp; omega
  rw [d3, if_neg (fun q => hl q.1)]; rfl
theorem y8 : ∀ (q n : Nat), n < 10 ^ q -> (Go.Lib.decDigits n).length <= max q 1
 | 0, n, h => by
  have : n = 0 := by simpa using h
  subst this
  rw [Go.Lib.decDigits, dif_pos (by decide)]; simp
 | q + 1, n, h => by
  rw [Go.Lib.decDigits]
  by_cases hn : n < 10
  ·rw [dif_pos hn]; simp
  ·rw [dif_neg hn]
   have hp : 10 ^ (q + 1) = 10 ^ q * 10 := Nat.pow_succ 10 q
   have hq : 0 < q := by
    rcases Nat.eq_zero_or_pos q with h0 | h0
    ·subst h0; simp at h; omega
    ·exact h0
   have := y8 q (n / 10) (by rw [hp] at h; generalize 10 ^ q = p at h ⊢; omega)
   simp only [List.length_append, List.length_cons, List.length_nil]
   omega
theorem XG (t : Str) (h : ∀ c, c ∈ t -> gV c) (h0 : t ≠ []) (hb : t.length <= 1000) : ∃ (vi vs : Int) (ok oks : Bool), jL t 0 1000000000 = some (vi, ok) /\ iG t = some (vs, oks) /\ ok = (oks && decide (vs <= 1000000000)) /\ (ok = true -> vi = vs) := by
 have hgd : gd t.length = some () := by unfold gd; simp; omega
 have hs : iG t = some (if t.length <= 12 /\ Go.Lib.itoa (aP 0 t : Int) = t then ((aP 0 t : Int), true) else (0, false)) := by
  unfold iG
  rw [Xc t h h0 hb]; rfl
 rw [hs]
 have hi : jL t 0 1000000000 = some (match Go.Lib.atoiAll t with
  | .ok v => if v < 0 \/ 1000000000 < v \/ Go.Lib.itoa v ≠ t then (0, false) else (v, true)
  | _ => (0, false)) := by
  unfold jL mY
  rw [hgd]; rfl
 rw [hi]
 by_cases hl : t.length <= 12
 ·rw [TB t h h0 hl]
  simp only
  by_cases he : Go.Lib.itoa (aP 0 t : Int) = t
  ·have e2 : (if t.length <= 12 /\ Go.Lib.itoa (aP 0 t : Int) = t then ((aP 0 t : Int), true) else (0, false)) = ((aP 0 t : Int), true) := if_pos ⟨hl, he⟩
   rw [e2]
   by_cases hv : (aP 0 t : Int) <= 1000000000
   ·have e1 : (if (aP 0 t : Int) < 0 \/ 1000000000 < (aP 0 t : Int) \/ Go.Lib.itoa (aP 0 t : Int) ≠ t then ((0 : Int), false) else ((aP 0 t : Int), true)) = ((aP 0 t : Int), true) := if_neg (fun q => by
     rcases q with q | q | q
     ·omega
     ·omega
     ·exact q he)
    rw [e1]
    exact ⟨_, _, _, _, rfl, rfl, by simp [hv], fun _ => rfl⟩
   ·have e1 : (if (aP 0 t : Int) < 0 \/ 1000000000 < (aP 0 t : Int) \/ Go.Lib.itoa (aP 0 t : Int) ≠ t then ((0 : Int), false) else ((aP 0 t : Int), true)) = (0, false) := if_pos (.inr (.inl (by omega)))
    rw [e1]
    exact ⟨_, _, _, _, rfl, rfl, by simp [hv], fun q => by cases q⟩
  ·have e2 : (if t.length <= 12 /\ Go.Lib.itoa (aP 0 t : Int) = t then ((aP 0 t : Int), true) else (0, false)) = (0, false) := if_neg (fun q => he q.2)
   have e1 : (if (aP 0 t : Int) < 0 \/ 1000000000 < (aP 0 t : Int) \/ Go.Lib.itoa (aP 0 t : Int) ≠ t then ((0 : Int), false) else ((aP 0 t : Int), true)) = (0, false) := if_pos (.inr (.inr he))
   rw [e2, e1]
   exact ⟨_, _, _, _, rfl, rfl, rfl, fun q => by cases q⟩
 ·rw [if_neg (fun q => hl q.1)]
  have hf : (match Go.Lib.atoiAll t with
   | .ok v => if v < 0 \/ 1000000000 < v \/ Go.Lib.itoa v ≠ t then ((0 : Int), false) else (v, true)
   | _ => (0, false)) = (0, false) := by
   cases hv : Go.Lib.atoiAll t with
   | ok v =>
    simp only
    rw [if_pos]
    by_cases h1 : v < 0
    ·exact .inl h1
    by_cases h2 : 1000000000 < v
    ·exact .inr (.inl h2)
    refine .inr (.inr fun he => hl ?_)
    have hi : Go.Lib.itoa v = Go.Lib.decDigits v.toNat := by unfold Go.Lib.itoa; rw [if_neg h1]
    rw [<- he, hi]
    have := y8 10 v.toNat (by omega)
    omega
   | range => rfl
   | _ => rfl
  rw [hf]
  exact ⟨_, _, _, _, rfl, rfl, rfl, fun q => by cases q⟩
end Go.Proofs.YtgfjbogcidlaeaaGreatDoor
