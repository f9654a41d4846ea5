import Derived.Test.YtgfjbogcidlaeaaGreatDoorNum1
import Derived.Test.YtgfjbogcidlaeaaGreatDoorParse1
/- Plain laws: what the tokenizers scan. Plain laws: tokens, the two tokenizers side by side. Plain laws: texts among the tokens, the two tokenizers side by side. Plain laws: symbols among the tokens, the two tokenizers side by side. Plain laws: one token, the two tokenizers side by side. Plain laws: the two tokenizers are alike. -/
set_option linter.unusedSimpArgs false
set_option linter.unusedVariables false
namespace Go.Proofs.YtgfjbogcidlaeaaGreatDoor
open Go.Abs Go.Proofs
theorem AA (a : Str) : eU a = dS a := rfl
def isLet (c : UInt8) : Bool := decide (97 <= c.toNat) && decide (c.toNat <= 122)
def dL (c : UInt8) : Bool := decide (48 <= c.toNat) && decide (c.toNat <= 57)
theorem lu (c : UInt8) : qV (c.toNat : Int) = some (isLet c) := by
 have q1 : decide ((c.toNat : Int) >= 97) = decide (97 <= c.toNat) := decide_eq_decide.2 (by omega)
 have q2 : decide ((c.toNat : Int) <= 122) = decide (c.toNat <= 122) := decide_eq_decide.2 (by omega)
 unfold qV isLet
 rw [q1, q2]
 cases decide (97 <= c.toNat) <;> simp
theorem lF (c : UInt8) : qW (c.toNat : Int) = some (dL c) := by
 have q1 : decide ((c.toNat : Int) >= 48) = decide (48 <= c.toNat) := decide_eq_decide.2 (by omega)
 have q2 : decide ((c.toNat : Int) <= 57) = decide (c.toNat <= 57) := decide_eq_decide.2 (by omega)
 unfold qW dL
 rw [q1, q2]
 cases decide (48 <= c.toNat) <;> simp
def bn (p : UInt8 -> Bool) : Str -> Nat
 | [] => 0
 | c :: r => if p c = true then bn p r + 1 else 0
theorem lG (p : UInt8 -> Bool) : ∀ (s : Str), bn p s <= s.length
 | [] => Nat.le_refl _
 | c :: r => by
  unfold bn
  have := lG p r
  split
  ·simp; omega
  ·omega
theorem Ig (p : UInt8 -> Bool) : ∀ (s : Str) c, c ∈ s.take (bn p s) -> p c = true
 | [], c, h => by simp at h
 | x :: r, c, h => by
  unfold bn at h
  split at h
  ·rename_i hx
   rw [List.take_succ_cons] at h
   rcases List.mem_cons.1 h with rfl | h
   ·exact hx
   ·exact Ig p r c h
  ·simp at h
theorem qR {X ρ : Type} {g : X -> Option (X ⊕ ρ)} (pk : Nat -> X) (a : Str) (p : UInt8 -> Bool) (fin : Nat -> Option ρ)
  (h1 : ∀ i c, a[i]? = some c -> p c = true -> g (pk i) = some (.inl (pk (i + 1)))) (h2 : ∀ i c, a[i]? = some c -> p c = false -> g (pk i) = (fin i).bind fun r => some (.inr r))
  (h3 : g (pk a.length) = (fin a.length).bind fun r => some (.inr r)) : ∀ (n i : Nat), a.length = i + n -> ah g (pk i) = fin (i + bn p (a.drop i)) := by
 intro n
 induction n with
 | zero =>
  intro i hi
  have : i = a.length := by omega
  subst this
  rw [aH, h3, List.drop_length]
  show _ = fin (a.length + 0)
  rw [Nat.add_zero]
  cases fin a.length <;> rfl
 | succ n ih =>
  intro i hi
  have hlt : i < a.length := by omega
  rw [List.drop_eq_getElem_cons hlt, aH]
  unfold bn
  cases hp : p a[i] with
  | true =>
   rw [h1 i a[i] (zF hlt) hp]
   simp only [if_true]
   rw [ih (i + 1) (by omega)]
   congr 1
   omega
  | false =>
   rw [h2 i a[i] (zF hlt) hp]
   simp only [Bool.false_eq_true, if_false, Nat.add_zero]
   cases fin i <;> rfl
theorem lY (a : Str) (b k : Nat) (h1 : b <= k) (h2 : k <= a.length) : eff.cutL a (some (b : Int)) (some (k : Int)) = some ((a.take k).drop b) := by
 unfold eff.cutL
 simp only [Option.getD_some]
 rw [if_pos]
 ·simp
 ·omega
def nV (c : UInt8) : Bool := isLet c || dL c
theorem eu {n : Nat} (h : n <= 1000) : w64 ((n : Int) + 1) = ((n + 1 : Nat) : Int) := by rw [bG (by omega) (by omega)]; rfl
theorem vP {k b : Nat} (h : b <= k) (hk : k <= 1000) : w64 ((k : Int) - (b : Int)) = ((k - b : Nat) : Int) := by rw [bG (by omega) (by omega)]; omega
theorem Ud (a : Str) (b : Nat) (hl : a.length <= 120) {c : UInt8} (hc : a[b]? = some c) (hp : isLet c = true) :
  jU a (b : Int) = some (⟨1, 0, b, (a.take (b + bn nV (a.drop b))).drop b⟩, if bn nV (a.drop b) > 8 then 0 else (bn nV (a.drop b) : Int)) := by
 have hb : b < a.length := (zC.1 hc).1
 have hrl : b + bn nV (a.drop b) <= a.length := by
  have := lG nV (a.drop b)
  rw [List.length_drop] at this
  omega
 unfold jU
 rw [aB, hc]
 simp only [zA, lu, hp, cond_true]
 have fin : ∀ k : Nat, b <= k -> k <= a.length -> ((eff.cutL a (some (b : Int)) (some (k : Int))).bind fun r8 => bif (decide ((w64 ((k : Int) - (b : Int))) > 8)) then some (aG.mk 1 0 (b : Int) r8, (0 : Int)) else some (aG.mk 1 0 (b : Int) r8, w64 ((k : Int) - (b : Int)))) = some (⟨1, 0, b, (a.take k).drop b⟩, if k - b > 8 then 0 else ((k - b : Nat) : Int)) := by
  intro k h1 h2
  rw [lY a b k h1 h2, vP h1 (by omega)]
  simp only [zA]
  by_cases h8 : k - b > 8
  ·have : decide (((k - b : Nat) : Int) > 8) = true := by simp; omega
   rw [this, if_pos h8]; rfl
  ·have : decide (((k - b : Nat) : Int) > 8) = false := by simp; omega
   rw [this, if_neg h8]; rfl
 have e9 : b + bn nV (a.drop b) - b = bn nV (a.drop b) := by omega
 refine (qR (fun k => (a, (b : Int), (0 : Int), (0 : Int), (0 : Int), ([] : Str), (0 : Int), (0 : Int), (b : Int), ([] : Str), (k : Int))) a nV (fun k => (eff.cutL a (some (b : Int)) (some (k : Int))).bind fun r8 => bif (decide ((w64 ((k : Int) - (b : Int))) > 8)) then some (aG.mk 1 0 (b : Int) r8, (0 : Int)) else some (aG.mk 1 0 (b : Int) r8, w64 ((k : Int) - (b : Int)))) ?_ ?_ ?_ (a.length - b) b (by omega)).trans ?_
 ·intro i d hd hpd
  have hi : i < a.length := (zC.1 hd).1
  have e2 : decide ((i : Int) < (a.length : Int)) = true := by simp; omega
  simp only [e2, cond_true, aB, hd, zA, lu, lF, eu (show i <= 1000 by omega)]
  unfold nV at hpd
  cases h1 : isLet d with
  | true => rfl
  | false =>
   rw [h1, Bool.false_or] at hpd
   simp only [cond_false, hpd, cond_true]
 ·intro i d hd hpd
  have hi : i < a.length := (zC.1 hd).1
  have e2 : decide ((i : Int) < (a.length : Int)) = true := by simp; omega
  simp only [e2, cond_true, aB, hd, zA, lu, lF]
  unfold nV at hpd
  rw [Bool.or_eq_false_iff] at hpd
  simp only [hpd.1, hpd.2, cond_false]
 ·have e2 : decide ((a.length : Int) < (a.length : Int)) = false := by simp
  simp only [e2, cond_false]
 ·rw [fin _ (by omega) hrl, e9]
theorem sN (d : UInt8) : decide ((d.toNat : Int) >= 97) = decide (97 <= d.toNat) /\ decide ((d.toNat : Int) <= 122) = decide (d.toNat <= 122) /\ decide ((d.toNat : Int) >= 48) = decide (48 <= d.toNat) /\ decide ((d.toNat : Int) <= 57) = decide (d.toNat <= 57) :=
 ⟨decide_eq_decide.2 (by omega), decide_eq_decide.2 (by omega), decide_eq_decide.2 (by omega), decide_eq_decide.2 (by omega)⟩
theorem XV (a : Str) (b : Nat) (hl : a.length <= 120) {c : UInt8} (hc : a[b]? = some c) (hp : isLet c = true) :
  gW a (b : Int) = some (⟨1, 0, b, (a.take (b + bn nV (a.drop b))).drop b⟩, ((b + bn nV (a.drop b) : Nat) : Int), decide (bn nV (a.drop b) <= 8)) := by
 have hb : b < a.length := (zC.1 hc).1
 have hrl : b + bn nV (a.drop b) <= a.length := by
  have := lG nV (a.drop b)
  rw [List.length_drop] at this
  omega
 unfold isLet at hp
 rw [zI] at hp
 unfold gW
 rw [aB, hc]
 simp only [zA, (sN c).1, (sN c).2.1, hp.1, hp.2, cond_true]
 have fin : ∀ k : Nat, b <= k -> k <= a.length -> ((eff.cutL a (some (b : Int)) (some (k : Int))).bind fun r7 => some (aG.mk 1 0 (b : Int) r7, (k : Int), (decide ((w64 ((k : Int) - (b : Int))) <= 8)))) = some (⟨1, 0, b, (a.take k).drop b⟩, (k : Int), decide (k - b <= 8)) := by
  intro k h1 h2
  rw [lY a b k h1 h2, vP h1 (by omega)]
  simp only [zA]
  have : decide (((k - b : Nat) : Int) <= 8) = decide (k - b <= 8) := decide_eq_decide.2 (by omega)
  rw [this]
 have e9 : b + bn nV (a.drop b) - b = bn nV (a.drop b) := by omega
 refine (qR (fun k => (a, (b : Int), (0 : Int), (0 : Int), (0 : Int), ([] : Str), (k : Int))) a nV (fun k => (eff.cutL a (some (b : Int)) (some (k : Int))).bind fun r7 => some (aG.mk 1 0 (b : Int) r7, (k : Int), (decide ((w64 ((k : Int) - (b : Int))) <= 8)))) ?_ ?_ ?_ (a.length - b) b (by omega)).trans ?_
 ·intro i d hd hpd
  have hi : i < a.length := (zC.1 hd).1
  have e2 : decide ((i : Int) < (a.length : Int)) = true := by simp; omega
  simp only [e2, cond_true, aB, hd, zA, (sN d).1, (sN d).2.1, (sN d).2.2.1, (sN d).2.2.2, eu (show i <= 1000 by omega)]
  unfold nV isLet dL at hpd
  cases h1 : decide (97 <= d.toNat) <;> cases h2 : decide (d.toNat <= 122) <;> cases h3 : decide (48 <= d.toNat) <;> cases h4 : decide (d.toNat <= 57) <;> rw [h1, h2, h3, h4] at hpd <;> first | rfl | cases hpd
 ·intro i d hd hpd
  have hi : i < a.length := (zC.1 hd).1
  have e2 : decide ((i : Int) < (a.length : Int)) = true := by simp; omega
  simp only [e2, cond_true, aB, hd, zA, (sN d).1, (sN d).2.1, (sN d).2.2.1, (sN d).2.2.2]
  unfold nV isLet dL at hpd
  cases h1 : decide (97 <= d.toNat) <;> cases h2 : decide (d.toNat <= 122) <;> cases h3 : decide (48 <= d.toNat) <;> cases h4 : decide (d.toNat <= 57) <;> rw [h1, h2, h3, h4] at hpd <;> first | rfl | cases hpd
 ·have e2 : decide ((a.length : Int) < (a.length : Int)) = false := by simp
  simp only [e2, cond_false]
 ·rw [fin _ (by omega) hrl, e9]
theorem aaL (a : Str) (b : Nat) (hl : a.length <= 120) {c : UInt8} (hc : a[b]? = some c) (hp : dL c = true) :
  ∃ (vi vs : Int) (ok oks : Bool), gW a (b : Int) = some (⟨2, vi, b, []⟩, ((b + bn dL (a.drop b) : Nat) : Int), ok) /\
   jU a (b : Int) = some (⟨2, vs, b, []⟩, if (oks && decide (vs <= 1000000000)) = true then (bn dL (a.drop b) : Int) else 0) /\ ok = (oks && decide (vs <= 1000000000)) /\ (ok = true -> vi = vs) := by
 have hb : b < a.length := (zC.1 hc).1
 have hrl : b + bn dL (a.drop b) <= a.length := by
  have := lG dL (a.drop b)
  rw [List.length_drop] at this
  omega
 have hdr : (a.take (b + bn dL (a.drop b))).drop b = (a.drop b).take (bn dL (a.drop b)) := by rw [List.drop_take]; congr 1; omega
 have hdig : ∀ d, d ∈ (a.take (b + bn dL (a.drop b))).drop b -> gV d := by
  intro d hd
  rw [hdr] at hd
  have := Ig dL _ d hd
  unfold dL at this
  unfold gV
  simpa using this
 have hr1 : 1 <= bn dL (a.drop b) := by
  have hd0 : a.drop b = a[b] :: a.drop (b + 1) := List.drop_eq_getElem_cons hb
  have hcb : a[b] = c := by rw [zF hb] at hc; exact Option.some.inj hc
  rw [hd0]
  unfold bn
  rw [hcb, if_pos hp]
  omega
 have hne : (a.take (b + bn dL (a.drop b))).drop b ≠ [] := by
  intro h
  have := congrArg List.length h
  rw [List.length_drop, List.length_take] at this
  simp at this
  omega
 obtain ⟨vi, vs, ok, oks, n1, n2, n3, n4⟩ := XG _ hdig hne (by rw [List.length_drop, List.length_take]; omega)
 refine ⟨vi, vs, ok, oks, ?_, ?_, n3, n4⟩
 ·unfold dL at hp
  rw [zI] at hp
  have hp1 : 48 <= c.toNat := by simpa using hp.1
  have hp2 : c.toNat <= 57 := by simpa using hp.2
  have h97 : decide ((c.toNat : Int) >= 97) = false := by simp; omega
  unfold gW
  rw [aB, hc]
  simp only [zA, h97, (sN c).2.2.1, (sN c).2.2.2, hp.1, hp.2, cond_true, cond_false]
  refine (qR (fun k => (a, (b : Int), (0 : Int), (0 : Int), (0 : Int), ([] : Str), (k : Int))) a dL (fun k => (eff.cutL a (some (b : Int)) (some (k : Int))).bind fun r17 => (jL r17 0 1000000000).bind fun r18 => some (aG.mk 2 r18.1 (b : Int) [], (k : Int), r18.2)) ?_ ?_ ?_ (a.length - b) b (by omega)).trans ?_
  ·intro i d hd hpd
   have hi : i < a.length := (zC.1 hd).1
   have e2 : decide ((i : Int) < (a.length : Int)) = true := by simp; omega
   simp only [e2, cond_true, aB, hd, zA, (sN d).2.2.1, (sN d).2.2.2, eu (show i <= 1000 by omega)]
   unfold dL at hpd
   cases h3 : decide (48 <= d.toNat) <;> cases h4 : decide (d.toNat <= 57) <;> rw [h3, h4] at hpd <;> first | rfl | cases hpd
  ·intro i d hd hpd
   have hi : i < a.length := (zC.1 hd).1
   have e2 : decide ((i : Int) < (a.length : Int)) = true := by simp; omega
   simp only [e2, cond_true, aB, hd, zA, (sN d).2.2.1, (sN d).2.2.2]
   unfold dL at hpd
   cases h3 : decide (48 <= d.toNat) <;> cases h4 : decide (d.toNat <= 57) <;> rw [h3, h4] at hpd <;> first | rfl | cases hpd
  ·have e2 : decide ((a.length : Int) < (a.length : Int)) = false := by simp
   simp only [e2, cond_false]
  ·rw [lY a b _ (by omega) hrl]
   simp only [zA, n1]
 ·have hlf : isLet c = false := by
   unfold dL at hp
   rw [zI] at hp
   have hp2 : c.toNat <= 57 := by simpa using hp.2
   unfold isLet
   have : decide (97 <= c.toNat) = false := by simp; omega
   rw [this]; rfl
  unfold jU
  rw [aB, hc]
  simp only [zA, lu, lF, hlf, hp, cond_true, cond_false]
  refine (qR (fun k => (a, (b : Int), (0 : Int), (0 : Int), (0 : Int), ([] : Str), (0 : Int), (0 : Int), (b : Int), ([] : Str), (k : Int))) a dL (fun k => (eff.cutL a (some (b : Int)) (some (k : Int))).bind fun r15 => (iG r15).bind fun r16 => bif (!r16.2) then some (aG.mk 2 r16.1 (b : Int) [], (0 : Int)) else bif (decide (r16.1 > 1000000000)) then some (aG.mk 2 r16.1 (b : Int) [], (0 : Int)) else some (aG.mk 2 r16.1 (b : Int) [], w64 ((k : Int) - (b : Int)))) ?_ ?_ ?_ (a.length - b) b (by omega)).trans ?_
  ·intro i d hd hpd
   have hi : i < a.length := (zC.1 hd).1
   have e2 : decide ((i : Int) < (a.length : Int)) = true := by simp; omega
   simp only [e2, cond_true, aB, hd, zA, lF, hpd, eu (show i <= 1000 by omega)]
  ·intro i d hd hpd
   have hi : i < a.length := (zC.1 hd).1
   have e2 : decide ((i : Int) < (a.length : Int)) = true := by simp; omega
   simp only [e2, cond_true, aB, hd, zA, lF, hpd, cond_false]
  ·have e2 : decide ((a.length : Int) < (a.length : Int)) = false := by simp
   simp only [e2, cond_false]
  ·rw [lY a b _ (by omega) hrl, vP (by omega) (by omega)]
   simp only [zA, n2]
   have e9 : b + bn dL (a.drop b) - b = bn dL (a.drop b) := by omega
   rw [e9]
   cases oks with
   | false => rfl
   | true =>
    by_cases hv : vs <= 1000000000
    ·have d1 : decide (vs > 1000000000) = false := by simp; omega
     have d2 : decide (vs <= 1000000000) = true := by simpa using hv
     rw [d1, d2]; rfl
    ·have d1 : decide (vs > 1000000000) = true := by simp; omega
     have d2 : decide (vs <= 1000000000) = false := by simpa using hv
     rw [d1, d2]; rfl
def noQ (c : UInt8) : Bool := !(c == 34)
theorem yR : ∀ (l : Str), Go.Lib.indexByte l 34 = if bn noQ l < l.length then (bn noQ l : Int) else -1
 | [] => rfl
 | c :: r => by
  unfold Go.Lib.indexByte bn noQ
  by_cases h : c = 34
  ·subst h; simp
  ·have e : (c == 34) = false := by simpa using h
   rw [e, yR r]
   simp only [Bool.false_eq_true, if_false, Bool.not_false, if_true]
   by_cases hr : bn noQ r < r.length
   ·have e1 : ¬ ((bn noQ r : Int) == -1) = true := by simp
    have e2 : bn noQ r + 1 < (c :: r).length := by simp; omega
    rw [if_pos hr, if_neg e1]
    have e3 : (bn (fun c => !c == 34) r + 1 < (c :: r).length) := e2
    rw [if_pos e3]
    show (bn noQ r : Int) + 1 = ((bn noQ r + 1 : Nat) : Int)
    omega
   ·have e2 : ¬ (bn noQ r + 1 < (c :: r).length) := by simp; omega
    have e3 : ¬ (bn (fun c => !c == 34) r + 1 < (c :: r).length) := e2
    rw [if_neg hr, if_neg e3]; rfl
theorem xC (a : Str) (b : Nat) (h : b <= a.length) : eff.cutL a (some (b : Int)) none = some (a.drop b) := by
 unfold eff.cutL
 simp only [Option.getD_some, Option.getD_none]
 rw [if_pos]
 ·simp
 ·omega
def abp (c : UInt8) : Bool := !(decide ((c.toNat : Int) < 32)) && !(decide ((c.toNat : Int) > 126)) && !((c.toNat : Int) == 34)
theorem Az (a : Str) (hl : a.length <= 120) : ∃ v, eU a = some v := by
 have := qR (g := fun (x1 : Str × Int) =>
  bif (decide (x1.2 < (x1.1.length : Int))) then
   (idx x1.1 x1.2).bind fun c2 =>
   bif (decide ((c2.toNat : Int) < 32)) then
    some (.inr (false))
   else
    (idx x1.1 x1.2).bind fun c3 =>
    bif (decide ((c3.toNat : Int) > 126)) then
     some (.inr (false))
    else
     (idx x1.1 x1.2).bind fun c4 =>
     bif ((c4.toNat : Int) == 34) then
      some (.inr (false))
     else
      some (.inl (x1.1, w64 (x1.2 + 1)))
  else
   some (.inr ((decide ((x1.1.length : Int) <= 20))))) (fun k => (a, (k : Int))) a abp (fun k => if k < a.length then some false else some (decide ((a.length : Int) <= 20))) ?_ ?_ ?_ a.length 0 (by omega)
 ·refine ⟨if 0 + bn abp (a.drop 0) < a.length then false else decide ((a.length : Int) <= 20), ?_⟩
  refine (this : eU a = _).trans ?_
  split <;> rfl
 ·intro i d hd hpd
  have hi : i < a.length := (zC.1 hd).1
  have e2 : decide ((i : Int) < (a.length : Int)) = true := by simp; omega
  simp only [e2, cond_true, aB, hd, zA, eu (show i <= 1000 by omega)]
  unfold abp at hpd
  cases h1 : decide ((d.toNat : Int) < 32) <;> cases h2 : decide ((d.toNat : Int) > 126) <;> cases h3 : ((d.toNat : Int) == 34) <;> rw [h1, h2, h3] at hpd <;> first | rfl | cases hpd
 ·intro i d hd hpd
  have hi : i < a.length := (zC.1 hd).1
  have e2 : decide ((i : Int) < (a.length : Int)) = true := by simp; omega
  simp only [e2, cond_true, aB, hd, zA, if_pos hi]
  unfold abp at hpd
  cases h1 : decide ((d.toNat : Int) < 32) <;> cases h2 : decide ((d.toNat : Int) > 126) <;> cases h3 : ((d.toNat : Int) == 34) <;> rw [h1, h2, h3] at hpd <;> first | rfl | cases hpd
 ·have e2 : decide ((a.length : Int) < (a.length : Int)) = false := by simp
  simp only [e2, cond_false, Nat.lt_irrefl, if_false]
  rfl
theorem VD (d : UInt8) : ((d.toNat : Int) != 34) = noQ d := by
 unfold noQ
 by_cases h : d = 34
 ·subst h; rfl
 ·have h1 : ¬ (d.toNat = 34) := fun e => h (UInt8.toNat_inj.1 e)
  have h2 : ((d.toNat : Int) == 34) = false := by
   rw [beq_eq_false_iff_ne]; intro e; exact h1 (by exact_mod_cast e)
  have h3 : (d == 34) = false := by simpa using h
  rw [bne, h2, h3]
theorem Uc (a : Str) (b : Nat) (hl : a.length <= 120) (hc : a[b]? = some 34) (k : Nat) (hk : k = b + 1 + bn noQ (a.drop (b + 1))) :
  jU a (b : Int) = if k < a.length then (dS ((a.take k).drop (b + 1))).bind (fun v => some (⟨3, 0, b, (a.take k).drop (b + 1)⟩, bif v then ((k + 1 - b : Nat) : Int) else 0))
   else some (⟨3, 0, b, (a.take k).drop (b + 1)⟩, 0) := by
 have hb : b < a.length := (zC.1 hc).1
 have hrl : k <= a.length := by
  have := lG noQ (a.drop (b + 1))
  rw [List.length_drop] at this
  omega
 have l1 : isLet (34 : UInt8) = false := rfl
 have l2 : dL (34 : UInt8) = false := rfl
 have l3 : (((34 : UInt8).toNat : Int) == 34) = true := rfl
 unfold jU
 rw [aB, hc]
 simp only [zA, lu, lF, l1, l2, l3, cond_true, cond_false, eu (show b <= 1000 by omega)]
 refine (qR (fun k => (a, (b : Int), (0 : Int), (0 : Int), (0 : Int), ([] : Str), (0 : Int), (0 : Int), (b : Int), ([] : Str), (k : Int))) a noQ
  (fun k => (eff.cutL a (some ((b + 1 : Nat) : Int)) (some (k : Int))).bind fun r22 => bif ((k : Int) == (a.length : Int)) then some (aG.mk 3 0 (b : Int) r22, (0 : Int)) else
   (dS r22).bind fun r23 => bif (!r23) then some (aG.mk 3 0 (b : Int) r22, (0 : Int)) else some (aG.mk 3 0 (b : Int) r22, w64 ((w64 ((k : Int) + 1)) - (b : Int)))) ?_ ?_ ?_ (a.length - (b + 1)) (b + 1) (by omega)).trans ?_
 ·intro i d hd hpd
  have hi : i < a.length := (zC.1 hd).1
  have e2 : decide ((i : Int) < (a.length : Int)) = true := by simp; omega
  simp only [e2, cond_true, aB, hd, zA, VD, hpd, eu (show i <= 1000 by omega)]
 ·intro i d hd hpd
  have hi : i < a.length := (zC.1 hd).1
  have e2 : decide ((i : Int) < (a.length : Int)) = true := by simp; omega
  simp only [e2, cond_true, aB, hd, zA, VD, hpd, cond_false, eu (show b <= 1000 by omega)]
 ·have e2 : decide ((a.length : Int) < (a.length : Int)) = false := by simp
  simp only [e2, cond_false, eu (show b <= 1000 by omega)]
 ·rw [<- hk, lY a (b + 1) k (by omega) hrl]
  simp only [zA]
  by_cases hlt : k < a.length
  ·have e1 : ((k : Int) == (a.length : Int)) = false := by rw [beq_eq_false_iff_ne]; omega
   rw [if_pos hlt, e1]
   simp only [cond_false, eu (show k <= 1000 by omega), vP (show b <= k + 1 by omega) (show k + 1 <= 1000 by omega)]
   congr 1
   funext v
   cases v <;> rfl
  ·have e1 : ((k : Int) == (a.length : Int)) = true := by rw [beq_iff_eq]; omega
   rw [if_neg hlt, e1]; rfl
theorem XT (a : Str) (b : Nat) (hl : a.length <= 120) (hc : a[b]? = some 34) (k : Nat) (hk : k = b + 1 + bn noQ (a.drop (b + 1))) :
  gW a (b : Int) = if k < a.length then (eU ((a.take k).drop (b + 1))).bind (fun v => some (⟨3, 0, b, (a.take k).drop (b + 1)⟩, ((k + 1 : Nat) : Int), v))
   else some (⟨0, 0, 0, []⟩, 0, false) := by
 have hb : b < a.length := (zC.1 hc).1
 have hrl : k <= a.length := by
  have := lG noQ (a.drop (b + 1))
  rw [List.length_drop] at this
  omega
 have l1 : decide (((34 : UInt8).toNat : Int) >= 97) = false := rfl
 have l2 : decide (((34 : UInt8).toNat : Int) >= 48) = false := rfl
 have l3 : (((34 : UInt8).toNat : Int) == 34) = true := rfl
 have ld : (a.drop (b + 1)).length = a.length - (b + 1) := List.length_drop
 have ib : dG (a.drop (b + 1)) 34 = some (if bn noQ (a.drop (b + 1)) < (a.drop (b + 1)).length then (bn noQ (a.drop (b + 1)) : Int) else -1) := by
  rw [<- yR]; rfl
 unfold gW
 rw [aB, hc]
 simp only [zA, l1, l2, l3, cond_true, cond_false, eu (show b <= 1000 by omega), xC a (b + 1) (by omega), ib]
 by_cases hlt : k < a.length
 ·have h1 : bn noQ (a.drop (b + 1)) < (a.drop (b + 1)).length := by omega
  have e0 : decide ((bn noQ (a.drop (b + 1)) : Int) < 0) = false := by simp
  have e1 : w64 (((b + 1 : Nat) : Int) + (bn noQ (a.drop (b + 1)) : Int)) = (k : Int) := by rw [bG (by omega) (by omega)]; omega
  have e2 : w64 ((w64 ((b : Int) + (bn noQ (a.drop (b + 1)) : Int))) + 2) = ((k + 1 : Nat) : Int) := by
   rw [bG (n := (b : Int) + (bn noQ (a.drop (b + 1)) : Int)) (by omega) (by omega), bG (by omega) (by omega)]; omega
  rw [if_pos h1, if_pos hlt, e0]
  simp only [cond_false, e1, e2, lY a (b + 1) k (by omega) hrl, zA]
 ·have h1 : ¬ bn noQ (a.drop (b + 1)) < (a.drop (b + 1)).length := by omega
  rw [if_neg h1, if_neg hlt]; rfl
theorem neN (c n : UInt8) (h : c ≠ n) : ((c.toNat : Int) == (n.toNat : Int)) = false := by
 rw [beq_eq_false_iff_ne]; intro e; exact h (UInt8.toNat_inj.1 (by exact_mod_cast e))
def sy9 (c : UInt8) : Prop := c = 40 \/ c = 41 \/ c = 91 \/ c = 93 \/ c = 44 \/ c = 43 \/ c = 45 \/ c = 42 \/ c = 60
theorem aed (a : Str) (b : Nat) {c : UInt8} (hc : a[b]? = some c) (h : sy9 c) : jC a (b : Int) = some 1 := by
 unfold jC
 rw [aB, hc]
 simp only [zA]
 rcases h with rfl | rfl | rfl | rfl | rfl | rfl | rfl | rfl | rfl <;> rfl
theorem aee (a : Str) (b : Nat) {c : UInt8} (hc : a[b]? = some c) (h : ¬ sy9 c) (h1 : c ≠ 61) : jC a (b : Int) = some 0 := by
 unfold sy9 at h
 simp only [not_or] at h
 obtain ⟨g1, g2, g3, g4, g5, g6, g7, g8, g9⟩ := h
 have e1 : ((c.toNat : Int) == 40) = false := neN c 40 g1
 have e2 : ((c.toNat : Int) == 41) = false := neN c 41 g2
 have e3 : ((c.toNat : Int) == 91) = false := neN c 91 g3
 have e4 : ((c.toNat : Int) == 93) = false := neN c 93 g4
 have e5 : ((c.toNat : Int) == 44) = false := neN c 44 g5
 have e6 : ((c.toNat : Int) == 43) = false := neN c 43 g6
 have e7 : ((c.toNat : Int) == 45) = false := neN c 45 g7
 have e8 : ((c.toNat : Int) == 42) = false := neN c 42 g8
 have e9 : ((c.toNat : Int) == 60) = false := neN c 60 g9
 have e10 : ((c.toNat : Int) == 61) = false := neN c 61 h1
 unfold jC
 rw [aB, hc]
 simp only [zA, e1, e2, e3, e4, e5, e6, e7, e8, e9, e10, cond_false]
theorem aec (a : Str) (b : Nat) (hl : a.length <= 120) (hc : a[b]? = some 61) : jC a (b : Int) = some (if a[b + 1]? = some 61 then 2 else 1) := by
 have hb : b < a.length := (zC.1 hc).1
 unfold jC
 rw [aB, hc]
 simp only [zA, eu (show b <= 1000 by omega)]
 show (bif (decide (((b + 1 : Nat) : Int) < (a.length : Int))) then _ else _) = _
 by_cases hlt : b + 1 < a.length
 ·have e1 : decide (((b + 1 : Nat) : Int) < (a.length : Int)) = true := by simp; omega
  rw [e1, aB, zF hlt]
  simp only [cond_true, zA]
  by_cases h : a[b + 1] = 61
  ·rw [h]; rfl
  ·have e2 : ((a[b + 1].toNat : Int) == 61) = false := neN _ 61 h
   rw [e2, if_neg (by simpa using h)]; rfl
 ·have e1 : decide (((b + 1 : Nat) : Int) < (a.length : Int)) = false := by simp; omega
  rw [e1, zJ (by omega)]; rfl
noncomputable def qO (a : Str) (b : Nat) (c : UInt8) : Nat := open Classical in if sy9 c then 1 else if c = 61 then (if a[b + 1]? = some 61 then 2 else 1) else 0
theorem aaN (a : Str) (b : Nat) (hl : a.length <= 120) {c : UInt8} (hc : a[b]? = some c) : jC a (b : Int) = some (qO a b c : Int) := by
 unfold qO
 by_cases h : sy9 c
 ·rw [if_pos h]; exact aed a b hc h
 ·rw [if_neg h]
  by_cases h1 : c = 61
  ·subst h1
   rw [if_pos rfl, aec a b hl hc]
   split <;> rfl
  ·rw [if_neg h1]; exact aee a b hc h h1
theorem VE (a : Str) (b : Nat) {c : UInt8} (hc : a[b]? = some c) : b + qO a b c <= a.length /\ qO a b c <= 2 := by
 have hb : b < a.length := (zC.1 hc).1
 unfold qO
 split
 ·omega
 ·split
  ·split
   ·rename_i h
    have := (zC.1 h).1
    omega
   ·omega
  ·omega
theorem Xe (a : Str) (b : Nat) (hl : a.length <= 120) {c : UInt8} (hc : a[b]? = some c) (h1 : isLet c = false) (h2 : dL c = false) (h3 : c ≠ 34) :
  jU a (b : Int) = some (⟨4, 0, b, (a.take (b + qO a b c)).drop b⟩, (qO a b c : Int)) := by
 have hb : b < a.length := (zC.1 hc).1
 have hn := VE a b hc
 have e3 : ((c.toNat : Int) == 34) = false := neN c 34 h3
 have e4 : w64 ((b : Int) + (qO a b c : Int)) = ((b + qO a b c : Nat) : Int) := by rw [bG (by omega) (by omega)]; omega
 have e5 : b + qO a b c - b = qO a b c := by omega
 unfold jU
 rw [aB, hc]
 simp only [zA, lu, lF, h1, h2, e3, cond_false, aaN a b hl hc, e4, lY a b _ (Nat.le_add_right _ _) hn.1, vP (Nat.le_add_right b (qO a b c)) (show b + qO a b c <= 1000 by omega), e5]
theorem XU (a : Str) (b : Nat) (hl : a.length <= 120) {c : UInt8} (hc : a[b]? = some c) (h1 : isLet c = false) (h2 : dL c = false) (h3 : c ≠ 34) :
  gW a (b : Int) = bif Go.Lib.hasPrefix (a.drop b) [61, 61] then some (⟨4, 0, b, [61, 61]⟩, ((b + 2 : Nat) : Int), true)
   else some (⟨4, 0, b, (a.take (b + 1)).drop b⟩, ((b + 1 : Nat) : Int), decide (Go.Lib.indexByte [40, 41, 91, 93, 44, 43, 45, 42, 60, 61] c >= 0)) := by
 have hb : b < a.length := (zC.1 hc).1
 have e3 : ((c.toNat : Int) == 34) = false := neN c 34 h3
 have e4 : w64 ((b : Int) + 2) = ((b + 2 : Nat) : Int) := by rw [bG (by omega) (by omega)]; rfl
 have ep : gU (a.drop b) [61, 61] = some (Go.Lib.hasPrefix (a.drop b) [61, 61]) := rfl
 have eb : dG [40, 41, 91, 93, 44, 43, 45, 42, 60, 61] (c.toNat : Int) = some (Go.Lib.indexByte [40, 41, 91, 93, 44, 43, 45, 42, 60, 61] c) := by
  unfold dG
  rw [Int.toNat_natCast]
  simp
 have core : ((eff.cutL a (some (b : Int)) none).bind fun r27 => (gU r27 [61, 61]).bind fun r28 =>
   bif r28 then some (aG.mk 4 0 (b : Int) [61, 61], w64 ((b : Int) + 2), true) else
   (eff.cutL a (some (b : Int)) (some (w64 ((b : Int) + 1)))).bind fun r29 =>
   (dG [40, 41, 91, 93, 44, 43, 45, 42, 60, 61] (c.toNat : Int)).bind fun r30 => some (aG.mk 4 0 (b : Int) r29, w64 ((b : Int) + 1), (decide (r30 >= 0)))) =
   bif Go.Lib.hasPrefix (a.drop b) [61, 61] then some (⟨4, 0, b, [61, 61]⟩, ((b + 2 : Nat) : Int), true)
   else some (⟨4, 0, b, (a.take (b + 1)).drop b⟩, ((b + 1 : Nat) : Int), decide (Go.Lib.indexByte [40, 41, 91, 93, 44, 43, 45, 42, 60, 61] c >= 0)) := by
  simp only [xC a b (by omega), zA, ep, eb, eu (show b <= 1000 by omega), e4, lY a b (b + 1) (by omega) (by omega)]
 unfold isLet at h1
 unfold dL at h2
 unfold gW
 rw [aB, hc]
 simp only [zA, (sN c).1, (sN c).2.1, (sN c).2.2.1, (sN c).2.2.2, e3]
 cases g1 : decide (97 <= c.toNat) <;> cases g2 : decide (c.toNat <= 122) <;> cases g3 : decide (48 <= c.toNat) <;> cases g4 : decide (c.toNat <= 57) <;> rw [g1, g2] at h1 <;> rw [g3, g4] at h2 <;> first | exact core | exact absurd h1 (by decide) | exact absurd h2 (by decide)
theorem drop_cons (a : Str) (b : Nat) {c : UInt8} (hc : a[b]? = some c) : a.drop b = c :: a.drop (b + 1) := by
 have hb : b < a.length := (zC.1 hc).1
 have hcb : a[b] = c := by rw [zF hb] at hc; exact Option.some.inj hc
 rw [List.drop_eq_getElem_cons hb, hcb]
theorem ZR (a : Str) (b : Nat) (hl : a.length <= 120) {c : UInt8} (hc : a[b]? = some c) (h1 : isLet c = false) (h2 : dL c = false) (h3 : c ≠ 34) :
  (qO a b c = 0 -> ∃ t e, gW a (b : Int) = some (t, e, false)) /\
  (0 < qO a b c -> gW a (b : Int) = some (⟨4, 0, b, (a.take (b + qO a b c)).drop b⟩, ((b + qO a b c : Nat) : Int), true)) := by
 have hd := drop_cons a b hc
 rw [XU a b hl hc h1 h2 h3]
 unfold qO
 by_cases h : sy9 c
 ·have hp : Go.Lib.hasPrefix (a.drop b) [61, 61] = false := by
   rw [hd]
   rcases h with rfl | rfl | rfl | rfl | rfl | rfl | rfl | rfl | rfl <;> rfl
  have hi : decide (Go.Lib.indexByte [40, 41, 91, 93, 44, 43, 45, 42, 60, 61] c >= 0) = true := by
   rcases h with rfl | rfl | rfl | rfl | rfl | rfl | rfl | rfl | rfl <;> rfl
  rw [if_pos h, hp, hi]
  exact ⟨fun e => absurd e (by decide), fun _ => rfl⟩
 ·rw [if_neg h]
  by_cases hq : c = 61
  ·subst hq
   rw [if_pos rfl]
   by_cases h2q : a[b + 1]? = some 61
   ·have hd2 := drop_cons a (b + 1) h2q
    have hp : Go.Lib.hasPrefix (a.drop b) [61, 61] = true := by rw [hd, hd2]; rfl
    have ht : (a.take (b + 2)).drop b = [61, 61] := by
     rw [List.drop_take, hd, hd2]
     have : b + 2 - b = 2 := by omega
     rw [this]; rfl
    rw [if_pos h2q, hp, ht]
    exact ⟨fun e => absurd e (by decide), fun _ => rfl⟩
   ·have hp : Go.Lib.hasPrefix (a.drop b) [61, 61] = false := by
     rw [hd]
     cases hr : a.drop (b + 1) with
     | nil => rfl
     | cons d r =>
      have hdd : a[b + 1]? = some d := by
       have := congrArg (fun l : Str => l[0]?) hr
       simpa using this
      have hne : (61 == d) = false := by
       rw [beq_eq_false_iff_ne]; intro e; exact h2q (by rw [hdd, e])
      show (((61 : UInt8) == 61) && ((61 == d) && _)) = false
      rw [hne]; rfl
    rw [if_neg h2q, hp]
    exact ⟨fun e => absurd e (by decide), fun _ => rfl⟩
  ·rw [if_neg hq]
   unfold sy9 at h
   simp only [not_or] at h
   obtain ⟨g1, g2, g3, g4, g5, g6, g7, g8, g9⟩ := h
   have hp : Go.Lib.hasPrefix (a.drop b) [61, 61] = false := by
    rw [hd]
    have hne : (61 == c) = false := by rw [beq_eq_false_iff_ne]; exact fun e => hq e.symm
    show ((61 == c) && _) = false
    rw [hne]; rfl
   have hi : decide (Go.Lib.indexByte [40, 41, 91, 93, 44, 43, 45, 42, 60, 61] c >= 0) = false := by
    simp [Go.Lib.indexByte, Ne.symm g1, Ne.symm g2, Ne.symm g3, Ne.symm g4, Ne.symm g5, Ne.symm g6, Ne.symm g7, Ne.symm g8, Ne.symm g9, Ne.symm hq]
   rw [hp, hi]
   exact ⟨fun _ => ⟨_, _, rfl⟩, fun e => absurd e (by decide)⟩
theorem zK {p : UInt8 -> Bool} {a : Str} {b : Nat} {c : UInt8} (hc : a[b]? = some c) (hp : p c = true) : 1 <= bn p (a.drop b) := by
 rw [drop_cons a b hc]
 unfold bn
 rw [if_pos hp]
 omega
theorem Md {a : Str} {b n : Nat} {c : UInt8} (hc : a[b]? = some c) (h : 1 <= n) : ∃ r, (a.take (b + n)).drop b = c :: r := by
 obtain ⟨k, rfl⟩ : ∃ k, n = k + 1 := ⟨n - 1, by omega⟩
 rw [List.drop_take, drop_cons a b hc]
 have e : b + (k + 1) - b = k + 1 := by omega
 rw [e, List.take_succ_cons]
 exact ⟨_, rfl⟩
theorem N9 {a : Str} {b k : Nat} (hl : a.length <= 120) : ((a.take k).drop b).length <= 120 := by simp; omega
theorem BK (c : UInt8) (r : Str) : letter (c :: r) = isLet c := by
 show decide (97 <= c.toNat /\ c.toNat <= 122) = isLet c
 unfold isLet
 rw [Bool.decide_and]
theorem WM (a : Str) (b : Nat) (hl : a.length <= 120) {c : UInt8} (hc : a[b]? = some c) :
  (∃ (t : aG) (n : Nat), 1 <= n /\ b + n <= a.length /\ NH t /\ gW a (b : Int) = some (t, ((b + n : Nat) : Int), true) /\ jU a (b : Int) = some (t, (n : Int))) \/
  ((∃ t e, gW a (b : Int) = some (t, e, false)) /\ ∃ t, jU a (b : Int) = some (t, 0)) := by
 have hb : b < a.length := (zC.1 hc).1
 have hrun : ∀ (p : UInt8 -> Bool), b + bn p (a.drop b) <= a.length := by
  intro p
  have := lG p (a.drop b)
  rw [List.length_drop] at this
  omega
 cases h1 : isLet c with
 | true =>
  have hn : nV c = true := by unfold nV; rw [h1]; rfl
  have hi := XV a b hl hc h1
  have hs := Ud a b hl hc h1
  by_cases h8 : bn nV (a.drop b) <= 8
  ·rw [decide_eq_true h8] at hi
   rw [if_neg (by omega)] at hs
   exact .inl ⟨_, _, zK hc hn, hrun nV, ⟨Int.natCast_nonneg b, fun _ => by obtain ⟨r, e⟩ := Md hc (zK hc hn); exact (congrArg letter e).trans ((BK c r).trans h1), fun e => absurd e (by simp), N9 hl⟩, hi, hs⟩
  ·rw [decide_eq_false h8] at hi
   rw [if_pos (by omega)] at hs
   exact .inr ⟨⟨_, _, hi⟩, ⟨_, hs⟩⟩
 | false =>
  cases h2 : dL c with
  | true =>
   obtain ⟨vi, vs, ok, oks, hi, hs, e1, e2⟩ := aaL a b hl hc h2
   cases hk : ok with
   | true =>
    rw [hk] at e1 hi
    have e3 := e2 hk
    subst e3
    rw [if_pos e1.symm] at hs
    exact .inl ⟨_, _, zK hc h2, hrun dL, ⟨Int.natCast_nonneg b, fun e => absurd e (by simp), fun e => absurd e (by simp), by simp⟩, hi, hs⟩
   | false =>
    rw [hk] at e1 hi
    rw [if_neg (by rw [<- e1]; decide)] at hs
    exact .inr ⟨⟨_, _, hi⟩, ⟨_, hs⟩⟩
  | false =>
   by_cases h3 : c = 34
   ·subst h3
    have hi := XT a b hl hc _ rfl
    have hs := Uc a b hl hc _ rfl
    by_cases hlt : b + 1 + bn noQ (a.drop (b + 1)) < a.length
    ·rw [if_pos hlt] at hi hs
     obtain ⟨v, hv⟩ := Az ((a.take (b + 1 + bn noQ (a.drop (b + 1)))).drop (b + 1)) (by simp; omega)
     have hv' : dS ((a.take (b + 1 + bn noQ (a.drop (b + 1)))).drop (b + 1)) = some v := hv
     rw [hv] at hi
     rw [hv'] at hs
     cases v with
     | true =>
      refine .inl ⟨_, b + 1 + bn noQ (a.drop (b + 1)) + 1 - b, by omega, by omega, ⟨Int.natCast_nonneg b, fun e => absurd e (by simp), fun e => absurd e (by simp), N9 hl⟩, ?_, hs⟩
      have e : b + (b + 1 + bn noQ (a.drop (b + 1)) + 1 - b) = b + 1 + bn noQ (a.drop (b + 1)) + 1 := by omega
      rw [e]; exact hi
     | false => exact .inr ⟨⟨_, _, hi⟩, ⟨_, hs⟩⟩
    ·rw [if_neg hlt] at hi hs
     exact .inr ⟨⟨_, _, hi⟩, ⟨_, hs⟩⟩
   ·have hi := ZR a b hl hc h1 h2 h3
    have hs := Xe a b hl hc h1 h2 h3
    by_cases h0 : qO a b c = 0
    ·rw [h0] at hs
     exact .inr ⟨hi.1 h0, ⟨_, hs⟩⟩
    ·exact .inl ⟨_, _, by omega, (VE a b hc).1, ⟨Int.natCast_nonneg b, fun e => absurd e (by simp), fun _ => by obtain ⟨r, e⟩ := Md hc (show 1 <= qO a b c by omega); exact (congrArg letter e).trans ((BK c r).trans h1), N9 hl⟩, hi.2 (by omega), hs⟩
theorem UO {ρ : Type} {X : Type} (f g : X -> Option (X ⊕ ρ)) (P : Nat -> X -> Prop) (R : ρ -> Prop)
  (h : ∀ m x, P m x -> (∃ r, R r /\ f x = some (.inr r) /\ g x = some (.inr r)) \/ (∃ y k, k < m /\ P k y /\ f x = some (.inl y) /\ g x = some (.inl y))) :
  ∀ m x, P m x -> ∃ r, R r /\ ah f x = some r /\ ah g x = some r := by
 intro m
 induction m using Nat.strongRecOn with
 | _ m ih =>
  intro x hx
  rw [aH f, aH g]
  rcases h m x hx with ⟨r, hr, e1, e2⟩ | ⟨y, k, hk, hp, e1, e2⟩
  ·rw [e1, e2]; exact ⟨r, hr, rfl, rfl⟩
  ·rw [e1, e2]; exact ih k hk y hp
theorem Gx (a : Str) : ∃ r, (r.2 < 0 -> cu r.1 (a.length : Int)) /\ rV a = some r /\ qU a = some r := by
 unfold rV qU
 by_cases hl : (a.length : Int) > 120
 ·rw [decide_eq_true hl]; exact ⟨_, fun h => absurd h (by decide), rfl, rfl⟩
 ·rw [decide_eq_false hl]
  simp only [cond_false]
  have hl' : a.length <= 120 := by omega
  refine UO _ _ (fun m x => ∃ toks b, x = (a, toks, ((b : Nat) : Int)) /\ b <= a.length /\ m = a.length - b /\ toks.length <= 60 /\ ∀ t, t ∈ toks -> NH t) (fun (r : List aG × Int) => r.2 < 0 -> cu r.1 (a.length : Int)) ?_ a.length (a, [], 0) ⟨[], 0, rfl, by omega, by omega, by simp, by simp⟩
  rintro m _ ⟨toks, b, rfl, hb, rfl, ht, hall⟩
  simp only
  by_cases hlt : b < a.length
  ·have e1 : decide ((b : Int) < (a.length : Int)) = true := by simp; omega
   have hc := zF hlt
   simp only [e1, cond_true, aB, hc, zA]
   cases hs : ((a[b].toNat : Int) == 32) with
   | true =>
    exact .inr ⟨(a, toks, ((b + 1 : Nat) : Int)), a.length - (b + 1), by omega, ⟨toks, b + 1, rfl, by omega, rfl, ht, hall⟩, by rw [eu (by omega)]; rfl, by rw [eu (by omega)]; rfl⟩
   | false =>
    rcases WM a b hl' hc with ⟨t, n, h1, h2, htk, ei, es⟩ | ⟨⟨t, e, ei⟩, ⟨t', es⟩⟩
    ·have en : ((n : Int) == 0) = false := by rw [beq_eq_false_iff_ne]; omega
     have ew : w64 ((b : Int) + (n : Int)) = ((b + n : Nat) : Int) := by rw [bG (by omega) (by omega)]; omega
     simp only [ei, es, zA, en, ew, cond_false, Bool.not_true]
     cases h6 : ((toks.length : Int) == 60) with
     | true => exact .inl ⟨([], (b : Int)), fun h => by simp at h; omega, rfl, rfl⟩
     | false =>
      have h7 : toks.length < 60 := by
       have : ¬ ((toks.length : Int) = 60) := by simpa using h6
       omega
      have hg : gd (toks.length + [t].length) = some () := by
       unfold gd
       rw [if_pos (by simp; omega)]
      rw [hg]
      exact .inr ⟨(a, toks ++ [t], ((b + n : Nat) : Int)), a.length - (b + n), by omega, ⟨toks ++ [t], b + n, rfl, h2, rfl, by simp; omega, fun u hu => by rcases List.mem_append.1 hu with hu | hu; exact hall u hu; rw [List.mem_singleton.1 hu]; exact htk⟩, rfl, rfl⟩
    ·simp only [ei, es, zA]
     exact .inl ⟨([], (b : Int)), fun h => by simp at h; omega, rfl, rfl⟩
  ·have e1 : decide ((b : Int) < (a.length : Int)) = false := by simp; omega
   simp only [e1, cond_false]
   exact .inl ⟨(toks, -1), fun _ => ⟨hall, by simp, ht⟩, rfl, rfl⟩
end Go.Proofs.YtgfjbogcidlaeaaGreatDoor
