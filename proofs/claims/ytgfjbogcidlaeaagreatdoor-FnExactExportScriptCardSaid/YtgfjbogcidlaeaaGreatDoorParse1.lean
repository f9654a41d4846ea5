import Derived.Test.YtgfjbogcidlaeaaGreatDoorNames2
/- The two parsers: their states, and the steps that read a token. The two parsers alike: products, sums, lists. The two parsers alike: atoms, expressions. The two parsers alike: with enough fuel they come to the same end. ParseExpr alike, out of the same tokens. -/
set_option linter.unusedSimpArgs false
set_option linter.unusedVariables false
namespace Go.Proofs.YtgfjbogcidlaeaaGreatDoor
noncomputable section
open Go.Abs Go.Proofs
structure PS where
 i : Nat
 bad : Option Nat
def wJ (toks : List aG) (stop : Int) (b : Nat) : Int := match toks[b]? with
 | some t => t.pos
 | none => stop
def encI (toks : List aG) (s : PS) : aN := ⟨toks, s.i, match s.bad with | none => -1 | some b => b⟩
def encS (toks : List aG) (stop : Int) (s : PS) : GRd := ⟨toks, s.i, stop, match s.bad with | none => -1 | some b => wJ toks stop b⟩
def letter (s : Str) : Bool := match s with
 | c :: _ => decide (97 <= c.toNat /\ c.toNat <= 122)
 | [] => false
structure NH (t : aG) : Prop where
 pos : 0 <= t.pos
 name : t.kind = 1 -> letter t.text = true
 sym : t.kind = 4 -> letter t.text = false
 len : t.text.length <= 120
structure cu (toks : List aG) (stop : Int) : Prop where
 all : ∀ t, t ∈ toks -> NH t
 stop : 0 <= stop
 len : toks.length <= 60
def sees (toks : List aG) (s : PS) (x : Str) : Bool := match s.bad with
 | some _ => false
 | none => match toks[s.i]? with
  | some t => (t.kind == 4 || t.kind == 1) && t.text == x
  | none => false
def fZ (s : PS) : PS := match s.bad with
 | some _ => s
 | none => ⟨s.i, some s.i⟩
def aX (s : PS) : PS := ⟨s.i + 1, s.bad⟩
def dO (toks : List aG) (s : PS) (x : Str) : PS := if sees toks s x = true then aX s else fZ s
variable {toks : List aG} {stop : Int}
theorem jF (h : cu toks stop) (b : Nat) : 0 <= wJ toks stop b := by
 unfold wJ
 cases hb : toks[b]? with
 | none => exact h.stop
 | some t => exact (h.all t (zG hb)).pos
theorem aZ {s : PS} {x : Str} (h : sees toks s x = true) : s.bad = none /\ s.i < toks.length := by
 unfold sees at h
 cases hb : s.bad with
 | some b => rw [hb] at h; cases h
 | none =>
  rw [hb] at h
  refine ⟨rfl, ?_⟩
  cases ht : toks[s.i]? with
  | none => rw [ht] at h; cases h
  | some t => exact (zC.1 ht).1
def aK (toks : List aG) (s : PS) : aG := match s.bad with
 | some _ => ⟨0, 0, 0, []⟩
 | none => (toks[s.i]?).getD ⟨0, 0, 0, []⟩
theorem rY (h : cu toks stop) (s : PS) : dK (encI toks s) = some (encI toks s, aK toks s) := by
 obtain ⟨i, bad⟩ := s
 unfold dK aK encI
 cases bad with
 | some b =>
  have e : decide ((b : Int) < 0) = false := by simp
  simp [e]
 | none =>
  simp only
  by_cases hi : i < toks.length
  ·simp [aB, hi, zF hi]
  ·have : toks[i]? = none := zJ (by omega)
   simp [hi, this]
theorem Wl (t : aG) (x : Str) : su t x = some (t.kind == 4 && t.text == x) := by
 unfold su
 by_cases h : t.kind == 4 <;> simp [h]
theorem Wp (t : aG) (x : Str) : iC t x = some (t.kind == 1 && t.text == x) := by
 unfold iC
 by_cases h : t.kind == 1 <;> simp [h]
theorem VJ (t : aG) (x : Str) : fD t x = some (t.kind == 4 && t.text == x) := by
 unfold fD
 by_cases h : t.kind == 4 <;> simp [h]
theorem aa0 (t : aG) (x : Str) : tN t x = some (t.kind == 1 && t.text == x) := by
 unfold tN
 by_cases h : t.kind == 1 <;> simp [h]
theorem zX (s : PS) (x : Str) : ((aK toks s).kind == 4 && (aK toks s).text == x || (aK toks s).kind == 1 && (aK toks s).text == x) = sees toks s x := by
 unfold aK sees
 cases s.bad with
 | some b => simp
 | none =>
  cases toks[s.i]? with
  | none => simp
  | some t => simp only [Option.getD_some]; cases (t.kind == 4) <;> cases (t.kind == 1) <;> simp
theorem jv (h : cu toks stop) (s : PS) : NH (aK toks s) := by
 have hz : NH ⟨0, 0, 0, []⟩ := ⟨by simp, by simp, by simp, by simp⟩
 unfold aK
 cases s.bad with
 | some b => exact hz
 | none =>
  cases ht : toks[s.i]? with
  | none => exact hz
  | some t => exact h.all t (zG ht)
theorem Jf (h : cu toks stop) (s : PS) (x : Str) (hx : letter x = true) : ((aK toks s).kind == 1 && (aK toks s).text == x) = sees toks s x := by
 rw [<- zX]
 have hok := jv h s
 cases hk : ((aK toks s).kind == 4 && (aK toks s).text == x) with
 | false => simp
 | true =>
  simp only [zI, beq_iff_eq] at hk
  have := hok.sym hk.1
  rw [hk.2, hx] at this
  cases this
theorem AO (h : cu toks stop) (s : PS) (x : Str) (hx : letter x = false) : ((aK toks s).kind == 4 && (aK toks s).text == x) = sees toks s x := by
 rw [<- zX]
 have hok := jv h s
 cases hk : ((aK toks s).kind == 1 && (aK toks s).text == x) with
 | false => simp
 | true =>
  simp only [zI, beq_iff_eq] at hk
  have := hok.name hk.1
  rw [hk.2, hx] at this
  cases this
theorem JB (s : PS) : eY (encI toks s) = some (encI toks (fZ s), ⟨0, 0, [], []⟩) := by
 obtain ⟨i, bad⟩ := s
 unfold eY fZ encI
 cases bad with
 | some b =>
  have e : decide ((b : Int) < 0) = false := by simp
  simp [e]
 | none => simp
theorem CW {n : Nat} (h : n <= 60) : w64 ((n : Int) + 1) = ((n + 1 : Nat) : Int) := by rw [bG (by omega) (by omega)]; rfl
theorem wZ {s : PS} (h : cu toks stop) (hs : s.i < toks.length) : (aN.mk (encI toks s).toks (w64 ((encI toks s).i + 1)) (encI toks s).bad) = encI toks (aX s) := by
 have := h.len
 have e : w64 ((encI toks s).i + 1) = ((s.i + 1 : Nat) : Int) := CW (by omega)
 rw [e]; rfl
theorem jk {s : PS} (h : cu toks stop) (hs : s.i < toks.length) : (GRd.mk (encS toks stop s).toks (w64 ((encS toks stop s).i + 1)) (encS toks stop s).stop (encS toks stop s).bad) = encS toks stop (aX s) := by
 have := h.len
 have e : w64 ((encS toks stop s).i + 1) = ((s.i + 1 : Nat) : Int) := CW (by omega)
 rw [e]; rfl
theorem iy (h : cu toks stop) (s : PS) (x : Str) (hx : letter x = false) : aT (encI toks s) x = some (encI toks (if sees toks s x = true then aX s else s), sees toks s x) := by
 unfold aT
 rw [rY h]
 simp only [zA, Wl, AO h s x hx]
 cases hc : sees toks s x with
 | true => simp only [cond_true, if_true]; rw [wZ h (aZ hc).2]
 | false => simp
theorem rZ (h : cu toks stop) (s : PS) (x : Str) : bD (encI toks s) x = some (encI toks (dO toks s x)) := by
 unfold bD dO
 rw [rY h]
 simp only [zA, Wp, rY h, Wl, JB]
 have hs := zX (toks := toks) s x
 cases hk : ((aK toks s).kind == 1 && (aK toks s).text == x) with
 | true =>
  rw [hk, Bool.or_true] at hs
  simp only [cond_true, <- hs, if_true]
  rw [wZ h (aZ hs.symm).2]
 | false =>
  rw [hk, Bool.or_false] at hs
  simp only [cond_false, hs]
  cases hc : sees toks s x with
  | true => simp only [cond_true, if_true]; rw [wZ h (aZ hc).2]
  | false => simp
theorem mJ (h : cu toks stop) (s : PS) (x : Str) : dF (encS toks stop s) x = some (encS toks stop s, sees toks s x) := by
 obtain ⟨i, bad⟩ := s
 unfold dF sees encS
 cases bad with
 | some b =>
  have := jF h b
  have e : decide (wJ toks stop b < 0) = false := by simp; omega
  simp [e]
 | none =>
  simp only
  by_cases hi : i < toks.length
  ·simp only [aB, zF hi, zA, VJ, aa0]
   have e1 : decide ((-1 : Int) < 0) = true := rfl
   have e2 : decide ((i : Int) < (toks.length : Int)) = true := by simp; omega
   simp only [e1, e2, cond_true]
   cases (toks[i].kind == 4) <;> cases (toks[i].kind == 1) <;> cases (toks[i].text == x) <;> simp
  ·have : toks[i]? = none := zJ (by omega)
   simp [hi, this]
theorem o6 (h : cu toks stop) (s : PS) : fH (encS toks stop s) = some (encS toks stop (fZ s), ⟨0, 0, [], []⟩) := by
 obtain ⟨i, bad⟩ := s
 unfold fH fZ encS
 cases bad with
 | some b =>
  have := jF h b
  have e : decide (wJ toks stop b < 0) = false := by simp; omega
  simp [e]
 | none =>
  simp only
  by_cases hi : i < toks.length
  ·simp [aB, hi, zF hi, wJ]
  ·have : toks[i]? = none := zJ (by omega)
   simp [hi, this, wJ]
theorem oV (h : cu toks stop) (s : PS) (x : Str) : dH (encS toks stop s) x = some (encS toks stop (dO toks s x)) := by
 unfold dH dO
 rw [mJ h]
 simp only [zA, o6 h]
 cases hc : sees toks s x with
 | true => simp only [Bool.not_true, cond_false, if_true]; rw [jk h (aZ hc).2]
 | false => simp
def iU (a : Str) : Bool := (bP a).getD false
theorem yu (a : Str) (hl : a.length <= 120) : bP a = some (iU a) := by
 obtain ⟨v, h⟩ := sW a (by omega)
 unfold iU
 rw [h]; rfl
theorem xN (a : Str) (hl : a.length <= 120) : bU a = some (iU a) := by
 rw [<- vS a (by omega), yu a hl]
def je (t : aG) : Bool := t.kind == 1 && iU t.text
def jK (toks : List aG) (s : PS) : PS × Str := if je (aK toks s) = true then (aX s, (aK toks s).text) else (fZ s, [])
theorem mX {s : PS} (h : ¬ (aK toks s).kind = 0) : s.bad = none /\ s.i < toks.length /\ toks[s.i]? = some (aK toks s) := by
 unfold aK at h ⊢
 cases hb : s.bad with
 | some b => rw [hb] at h; exact absurd rfl h
 | none =>
  rw [hb] at h
  simp only at h ⊢
  cases ht : toks[s.i]? with
  | none => rw [ht] at h; exact absurd rfl h
  | some t => exact ⟨trivial, (zC.1 ht).1, rfl⟩
theorem DJ {s : PS} (h : je (aK toks s) = true) : s.bad = none /\ s.i < toks.length /\ toks[s.i]? = some (aK toks s) := by
 refine mX fun h0 => ?_
 unfold je at h
 rw [h0] at h
 cases h
theorem RZ (h : cu toks stop) (s : PS) : jy (encI toks s) = some (encI toks (jK toks s).1, (jK toks s).2) := by
 unfold jy jK
 rw [rY h]
 have hok := jv h s
 simp only [zA, JB, yu _ hok.len]
 cases hk : ((aK toks s).kind == 1) with
 | false =>
  have e : ((aK toks s).kind != 1) = true := by simp [bne, hk]
  have e2 : je (aK toks s) = false := by unfold je; rw [hk]; rfl
  rw [e, e2]; simp
 | true =>
  have e : ((aK toks s).kind != 1) = false := by simp [bne, hk]
  rw [e]
  cases hv : iU (aK toks s).text with
  | false =>
   have e2 : je (aK toks s) = false := by unfold je; rw [hk, hv]; rfl
   rw [e2]; simp
  | true =>
   have e2 : je (aK toks s) = true := by unfold je; rw [hk, hv]; rfl
   rw [e2]
   simp only [cond_false, Bool.not_true, if_true]
   rw [wZ h (DJ e2).2.1]
theorem Qy (h : cu toks stop) (s : PS) : wC (encS toks stop s) = some (encS toks stop (jK toks s).1, (jK toks s).2) := by
 unfold wC jK
 simp only [o6 h]
 obtain ⟨i, bad⟩ := s
 cases bad with
 | some b =>
  have := jF h b
  have e : decide ((encS toks stop ⟨i, some b⟩).bad >= 0) = true := by simp [encS]; omega
  have e2 : je (aK toks ⟨i, some b⟩) = false := rfl
  rw [e, e2]; simp
 | none =>
  have e : decide ((encS toks stop ⟨i, none⟩).bad >= 0) = false := by simp [encS]
  rw [e]
  by_cases hi : i < toks.length
  ·have e1 : decide ((encS toks stop ⟨i, none⟩).i >= ((encS toks stop ⟨i, none⟩).toks.length : Int)) = false := by simp [encS]; omega
   have ht : toks[i]? = some (aK toks ⟨i, none⟩) := by simp [aK, zF hi]
   have hid : idx (encS toks stop ⟨i, none⟩).toks (encS toks stop ⟨i, none⟩).i = some (aK toks ⟨i, none⟩) := by
    show idx toks (i : Int) = _
    rw [aB, ht]
   have hlen := h.len
   have hid2 : idx (encS toks stop ⟨i, none⟩).toks (w64 (w64 ((encS toks stop ⟨i, none⟩).i + 1) - 1)) = some (aK toks ⟨i, none⟩) := by
    have e3 : w64 (w64 ((encS toks stop ⟨i, none⟩).i + 1) - 1) = (i : Int) := by
     show w64 (w64 ((i : Int) + 1) - 1) = _
     rw [CW (by omega), bG (by omega) (by omega)]
     omega
    rw [e3]
    show idx toks (i : Int) = _
    rw [aB, ht]
   have hok := jv h ⟨i, none⟩
   rw [e1]
   simp only [cond_false, hid, hid2, zA, xN _ hok.len]
   cases hk : ((aK toks ⟨i, none⟩).kind == 1) with
   | false =>
    have e : ((aK toks ⟨i, none⟩).kind != 1) = true := by simp [bne, hk]
    have e2 : je (aK toks ⟨i, none⟩) = false := by unfold je; rw [hk]; rfl
    rw [e, e2]; simp
   | true =>
    have e : ((aK toks ⟨i, none⟩).kind != 1) = false := by simp [bne, hk]
    rw [e]
    cases hv : iU (aK toks ⟨i, none⟩).text with
    | false =>
     have e2 : je (aK toks ⟨i, none⟩) = false := by unfold je; rw [hk, hv]; rfl
     rw [e2]; simp
    | true =>
     have e2 : je (aK toks ⟨i, none⟩) = true := by unfold je; rw [hk, hv]; rfl
     rw [e2]
     simp only [cond_false, Bool.not_true, if_true]
     rw [jk (s := ⟨i, none⟩) h hi]
  ·have e1 : decide ((encS toks stop ⟨i, none⟩).i >= ((encS toks stop ⟨i, none⟩).toks.length : Int)) = true := by simp [encS]; omega
   have ht : toks[i]? = none := zJ (by omega)
   have e2 : je (aK toks ⟨i, none⟩) = false := by simp [aK, ht, je]
   rw [e1, e2]; simp
structure Adv (toks : List aG) (s s' : PS) : Prop where
 le : s.i <= s'.i
 len : s'.i <= toks.length
 bad : ∀ b, s.bad = some b -> s' = s
theorem Adv.refl {s : PS} (h : s.i <= toks.length) : Adv toks s s := ⟨Nat.le_refl _, h, fun _ _ => rfl⟩
theorem Adv.trans {a b c : PS} (h : Adv toks a b) (k : Adv toks b c) : Adv toks a c := ⟨Nat.le_trans h.le k.le, k.len, fun x hx => by
 have e := h.bad x hx
 subst e
 exact k.bad x hx⟩
def rem (toks : List aG) (s : PS) : Nat := match s.bad with
 | some _ => 0
 | none => toks.length - s.i
theorem Adv.rem {s s' : PS} (h : Adv toks s s') : rem toks s' <= rem toks s := by
 cases hb : s.bad with
 | some b => rw [h.bad b hb]; exact Nat.le_refl _
 | none =>
  have e : Go.Proofs.YtgfjbogcidlaeaaGreatDoor.rem toks s = toks.length - s.i := by unfold Go.Proofs.YtgfjbogcidlaeaaGreatDoor.rem; rw [hb]
  rw [e]
  have := h.le
  unfold Go.Proofs.YtgfjbogcidlaeaaGreatDoor.rem
  cases s'.bad with
  | some b => exact Nat.zero_le _
  | none => simp only; omega
theorem dU {s : PS} (hb : s.bad = none) (hi : s.i < toks.length) : Adv toks s (aX s) /\ rem toks (aX s) + 1 = rem toks s := by
 refine ⟨⟨by simp [aX], hi, fun b h => by rw [hb] at h; cases h⟩, ?_⟩
 simp only [rem, aX, hb]
 omega
theorem Cj {s : PS} (hi : s.i <= toks.length) : Adv toks s (fZ s) := by
 unfold fZ
 cases hb : s.bad with
 | some b => exact Adv.refl hi
 | none => exact ⟨Nat.le_refl _, hi, fun b h => by rw [hb] at h; cases h⟩
theorem SH (s : PS) : ∃ b, (fZ s).bad = some b := by
 unfold fZ
 cases hb : s.bad with
 | some b => exact ⟨b, hb⟩
 | none => exact ⟨s.i, rfl⟩
theorem mr {s : PS} {x : Str} (hi : s.i <= toks.length) : Adv toks s (dO toks s x) := by
 unfold dO
 split
 ·rename_i h; exact (dU (aZ h).1 (aZ h).2).1
 ·exact Cj hi
theorem Ro {s : PS} (hi : s.i <= toks.length) : Adv toks s (jK toks s).1 := by
 unfold jK
 split
 ·rename_i h; exact (dU (DJ h).1 (DJ h).2.1).1
 ·exact Cj hi
variable {toks : List aG} {stop : Int}
mutual
def wtE : af -> Nat
 | ⟨_, _, t, a⟩ => (if t.length <= 120 then 1 else 18446744073709551616) + wtL a
def wtL : List af -> Nat
 | [] => 0
 | x :: r => wtE x + wtL r
end
theorem sS (a b : List af) : wtL (a ++ b) = wtL a + wtL b := by
 induction a with
 | nil => simp [wtL]
 | cons x r ih => simp only [List.cons_append, wtL, ih]; omega
theorem qN {k n : Int} {t : Str} {a : List af} (h : t.length <= 120) : wtE ⟨k, n, t, a⟩ = 1 + wtL a := by simp [wtE, h]
theorem Au {k n : Int} {a : List af} : wtE ⟨k, n, [], a⟩ = 1 + wtL a := by simp [wtE]
theorem NP (x : af) : wtL [x] = wtE x := by simp [wtL]
theorem Ar (x y : af) : wtL [x, y] = wtE x + wtE y := by simp [wtL]
theorem WG (x y z : af) : wtL [x, y, z] = wtE x + (wtE y + wtE z) := by simp [wtL]
def Sim {α : Type} (w : α -> Nat) (toks : List aG) (stop : Int) (f : aN -> Option (aN × α)) (g : GRd -> Option (GRd × α)) (s : PS) : Prop :=
 ∃ (s' : PS) (x y : α), f (encI toks s) = some (encI toks s', x) /\ g (encS toks stop s) = some (encS toks stop s', y) /\ (s'.bad = none -> x = y /\ w x + s.i <= s'.i) /\ Adv toks s s'
theorem iK (s : PS) : (aX s).i = s.i + 1 := rfl
theorem VI {s : PS} {x y : Str} (h : sees toks s x = true) (hne : x ≠ y) : sees toks s y = false := by
 unfold sees at h ⊢
 cases hb : s.bad with
 | some b => rfl
 | none =>
  rw [hb] at h
  simp only at h ⊢
  cases ht : toks[s.i]? with
  | none => rfl
  | some t =>
   rw [ht] at h
   simp only [zI, beq_iff_eq] at h ⊢
   have : ¬ t.text = y := by rw [h.2]; exact hne
   simp [this]
abbrev IX := (List aG) × Int × Int × Int × Int × Str × (List af) × Int × Int × Str × (List af)
abbrev SX := (List aG) × Int × Int × Int × Int × Int × Str × (List af) × Int × Int × Str × (List af)
def pkI (toks : List aG) (s : PS) (e : af) : IX := ((encI toks s).toks, (encI toks s).i, (encI toks s).bad, 0, 0, [], [], e.kind, e.n, e.text, e.args)
def pkS (toks : List aG) (stop : Int) (s : PS) (e : af) : SX := ((encS toks stop s).toks, (encS toks stop s).i, (encS toks stop s).stop, (encS toks stop s).bad, 0, 0, [], [], e.kind, e.n, e.text, e.args)
def VU (fa : aN -> Option (aN × af)) : IX -> Option (IX ⊕ (aN × af)) := (fun (x2 : (List aG) × Int × Int × Int × Int × Str × (List af) × Int × Int × Str × (List af)) =>
  (aT (aN.mk x2.1 x2.2.1 x2.2.2.1) [42]).bind fun r3 =>
  bif r3.2 then
   (fa r3.1).bind fun r4 =>
   some (.inl (r4.1.toks, r4.1.i, r4.1.bad, x2.2.2.2.1, x2.2.2.2.2.1, x2.2.2.2.2.2.1, x2.2.2.2.2.2.2.1, 6, 3, [], [af.mk x2.2.2.2.2.2.2.2.1 x2.2.2.2.2.2.2.2.2.1 x2.2.2.2.2.2.2.2.2.2.1 x2.2.2.2.2.2.2.2.2.2.2, aj r4.2]))
  else
   some (.inr (r3.1, af.mk x2.2.2.2.2.2.2.2.1 x2.2.2.2.2.2.2.2.2.1 x2.2.2.2.2.2.2.2.2.2.1 x2.2.2.2.2.2.2.2.2.2.2))
 )
def VT (ga : GRd -> Option (GRd × af)) : SX -> Option (SX ⊕ (GRd × af)) := (fun (x2 : (List aG) × Int × Int × Int × Int × Int × Str × (List af) × Int × Int × Str × (List af)) =>
  (dF (GRd.mk x2.1 x2.2.1 x2.2.2.1 x2.2.2.2.1) [42]).bind fun r3 =>
  bif r3.2 then
   (ga (GRd.mk r3.1.toks (w64 (r3.1.i + 1)) r3.1.stop r3.1.bad)).bind fun r4 =>
   (jl 3 (af.mk x2.2.2.2.2.2.2.2.2.1 x2.2.2.2.2.2.2.2.2.2.1 x2.2.2.2.2.2.2.2.2.2.2.1 x2.2.2.2.2.2.2.2.2.2.2.2) (aj r4.2)).bind fun r5 =>
   some (.inl (r4.1.toks, r4.1.i, r4.1.stop, r4.1.bad, x2.2.2.2.2.1, x2.2.2.2.2.2.1, x2.2.2.2.2.2.2.1, x2.2.2.2.2.2.2.2.1, r5.kind, r5.n, r5.text, r5.args))
  else
   some (.inr (r3.1, af.mk x2.2.2.2.2.2.2.2.2.1 x2.2.2.2.2.2.2.2.2.2.1 x2.2.2.2.2.2.2.2.2.2.2.1 x2.2.2.2.2.2.2.2.2.2.2.2))
 )
def WV (fa : aN -> Option (aN × af)) : IX -> Option (IX ⊕ (aN × af)) := (fun (x2 : (List aG) × Int × Int × Int × Int × Str × (List af) × Int × Int × Str × (List af)) =>
  bif (decide (x2.2.2.1 < 0)) then
   (aT (aN.mk x2.1 x2.2.1 x2.2.2.1) [43]).bind fun r3 =>
   bif (!r3.2) then
    (aT r3.1 [45]).bind fun r4 =>
    bif (!r4.2) then
     some (.inr (r4.1, af.mk x2.2.2.2.2.2.2.2.1 x2.2.2.2.2.2.2.2.2.1 x2.2.2.2.2.2.2.2.2.2.1 x2.2.2.2.2.2.2.2.2.2.2))
    else
     (fa r4.1).bind fun r5 =>
     some (.inl (r5.1.toks, r5.1.i, r5.1.bad, x2.2.2.2.1, x2.2.2.2.2.1, x2.2.2.2.2.2.1, x2.2.2.2.2.2.2.1, 6, 2, [], [af.mk x2.2.2.2.2.2.2.2.1 x2.2.2.2.2.2.2.2.2.1 x2.2.2.2.2.2.2.2.2.2.1 x2.2.2.2.2.2.2.2.2.2.2, aj r5.2]))
   else
    (fa r3.1).bind fun r6 =>
    some (.inl (r6.1.toks, r6.1.i, r6.1.bad, x2.2.2.2.1, x2.2.2.2.2.1, x2.2.2.2.2.2.1, x2.2.2.2.2.2.2.1, 6, 1, [], [af.mk x2.2.2.2.2.2.2.2.1 x2.2.2.2.2.2.2.2.2.1 x2.2.2.2.2.2.2.2.2.2.1 x2.2.2.2.2.2.2.2.2.2.2, aj r6.2]))
  else
   some (.inr (aN.mk x2.1 x2.2.1 x2.2.2.1, af.mk x2.2.2.2.2.2.2.2.1 x2.2.2.2.2.2.2.2.2.1 x2.2.2.2.2.2.2.2.2.2.1 x2.2.2.2.2.2.2.2.2.2.2))
 )
def WU (ga : GRd -> Option (GRd × af)) : SX -> Option (SX ⊕ (GRd × af)) := (fun (x2 : (List aG) × Int × Int × Int × Int × Int × Str × (List af) × Int × Int × Str × (List af)) =>
  (dF (GRd.mk x2.1 x2.2.1 x2.2.2.1 x2.2.2.2.1) [43]).bind fun r3 =>
  bif r3.2 then
   (dF r3.1 [45]).bind fun r4 =>
   bif r4.2 then
    (ga (GRd.mk r4.1.toks (w64 (r4.1.i + 1)) r4.1.stop r4.1.bad)).bind fun r5 =>
    (jl 2 (af.mk x2.2.2.2.2.2.2.2.2.1 x2.2.2.2.2.2.2.2.2.2.1 x2.2.2.2.2.2.2.2.2.2.2.1 x2.2.2.2.2.2.2.2.2.2.2.2) (aj r5.2)).bind fun r6 =>
    some (.inl (r5.1.toks, r5.1.i, r5.1.stop, r5.1.bad, x2.2.2.2.2.1, x2.2.2.2.2.2.1, x2.2.2.2.2.2.2.1, x2.2.2.2.2.2.2.2.1, r6.kind, r6.n, r6.text, r6.args))
   else
    (ga (GRd.mk r4.1.toks (w64 (r4.1.i + 1)) r4.1.stop r4.1.bad)).bind fun r7 =>
    (jl 1 (af.mk x2.2.2.2.2.2.2.2.2.1 x2.2.2.2.2.2.2.2.2.2.1 x2.2.2.2.2.2.2.2.2.2.2.1 x2.2.2.2.2.2.2.2.2.2.2.2) (aj r7.2)).bind fun r8 =>
    some (.inl (r7.1.toks, r7.1.i, r7.1.stop, r7.1.bad, x2.2.2.2.2.1, x2.2.2.2.2.2.1, x2.2.2.2.2.2.2.1, x2.2.2.2.2.2.2.2.1, r8.kind, r8.n, r8.text, r8.args))
  else
  (dF r3.1 [45]).bind fun r9 =>
  bif r9.2 then
   (dF r9.1 [45]).bind fun r10 =>
   bif r10.2 then
    (ga (GRd.mk r10.1.toks (w64 (r10.1.i + 1)) r10.1.stop r10.1.bad)).bind fun r11 =>
    (jl 2 (af.mk x2.2.2.2.2.2.2.2.2.1 x2.2.2.2.2.2.2.2.2.2.1 x2.2.2.2.2.2.2.2.2.2.2.1 x2.2.2.2.2.2.2.2.2.2.2.2) (aj r11.2)).bind fun r12 =>
    some (.inl (r11.1.toks, r11.1.i, r11.1.stop, r11.1.bad, x2.2.2.2.2.1, x2.2.2.2.2.2.1, x2.2.2.2.2.2.2.1, x2.2.2.2.2.2.2.2.1, r12.kind, r12.n, r12.text, r12.args))
   else
    (ga (GRd.mk r10.1.toks (w64 (r10.1.i + 1)) r10.1.stop r10.1.bad)).bind fun r13 =>
    (jl 1 (af.mk x2.2.2.2.2.2.2.2.2.1 x2.2.2.2.2.2.2.2.2.2.1 x2.2.2.2.2.2.2.2.2.2.2.1 x2.2.2.2.2.2.2.2.2.2.2.2) (aj r13.2)).bind fun r14 =>
    some (.inl (r13.1.toks, r13.1.i, r13.1.stop, r13.1.bad, x2.2.2.2.2.1, x2.2.2.2.2.2.1, x2.2.2.2.2.2.2.1, x2.2.2.2.2.2.2.2.1, r14.kind, r14.n, r14.text, r14.args))
  else
   some (.inr (r9.1, af.mk x2.2.2.2.2.2.2.2.2.1 x2.2.2.2.2.2.2.2.2.2.1 x2.2.2.2.2.2.2.2.2.2.2.1 x2.2.2.2.2.2.2.2.2.2.2.2))
 )
theorem abb (r1 r2 r3 fa r5) (a : aN) : nD r1 r2 r3 fa r5 a = (fa a).bind fun r => ah (VU fa) (r.1.toks, r.1.i, r.1.bad, 0, 0, [], [], r.2.kind, r.2.n, r.2.text, r.2.args) := rfl
theorem aa9 (r1 r2 r3 r4 ga r6) (a : GRd) : tK r1 r2 r3 r4 ga r6 a = (ga a).bind fun r => ah (VT ga) (r.1.toks, r.1.i, r.1.stop, r.1.bad, 0, 0, [], [], r.2.kind, r.2.n, r.2.text, r.2.args) := rfl
theorem adE (r1 r2 fa r4 r5) (a : aN) : wS r1 r2 fa r4 r5 a = (fa a).bind fun r => ah (WV fa) (r.1.toks, r.1.i, r.1.bad, 0, 0, [], [], r.2.kind, r.2.n, r.2.text, r.2.args) := rfl
theorem adD (r1 r2 r3 ga r5 r6) (a : GRd) : Hl r1 r2 r3 ga r5 r6 a = (ga a).bind fun r => ah (WU ga) (r.1.toks, r.1.i, r.1.stop, r.1.bad, 0, 0, [], [], r.2.kind, r.2.n, r.2.text, r.2.args) := rfl
theorem zQ (h : cu toks stop) (fa) (s : PS) (e : af) : VU fa (pkI toks s e) = if sees toks s [42] = true then (fa (encI toks (aX s))).bind fun r => some (.inl (r.1.toks, r.1.i, r.1.bad, 0, 0, [], [], 6, 3, [], [e, r.2])) else some (.inr (encI toks s, e)) := by
 obtain ⟨ek, en, et, ea⟩ := e
 have e0 : (aN.mk (pkI toks s ⟨ek, en, et, ea⟩).1 (pkI toks s ⟨ek, en, et, ea⟩).2.1 (pkI toks s ⟨ek, en, et, ea⟩).2.2.1) = encI toks s := rfl
 unfold VU
 simp only [e0, iy h s [42] rfl, zA]
 cases sees toks s [42] with
 | true => simp only [cond_true, if_true, bF]; rfl
 | false => simp only [cond_false, Bool.false_eq_true, if_false]; rfl
theorem zO (h : cu toks stop) (ga) (s : PS) (e : af) : VT ga (pkS toks stop s e) = if sees toks s [42] = true then (ga (encS toks stop (aX s))).bind fun r => some (.inl (r.1.toks, r.1.i, r.1.stop, r.1.bad, 0, 0, [], [], 6, 3, [], [e, r.2])) else some (.inr (encS toks stop s, e)) := by
 obtain ⟨ek, en, et, ea⟩ := e
 have e0 : (GRd.mk (pkS toks stop s ⟨ek, en, et, ea⟩).1 (pkS toks stop s ⟨ek, en, et, ea⟩).2.1 (pkS toks stop s ⟨ek, en, et, ea⟩).2.2.1 (pkS toks stop s ⟨ek, en, et, ea⟩).2.2.2.1) = encS toks stop s := rfl
 unfold VT
 simp only [e0, mJ h s [42], zA]
 cases hc : sees toks s [42] with
 | true =>
  simp only [cond_true, if_true]
  rw [jk h (aZ hc).2]
  simp only [jl, zA, bF]
  rfl
 | false => simp only [cond_false, Bool.false_eq_true, if_false]; rfl
theorem Xz (h : cu toks stop) {k i0 : Nat} {fa ga} (hA : ∀ s, s.i <= toks.length -> rem toks s <= k -> Sim wtE toks stop fa ga s) : ∀ (r : Nat) (s : PS) (e1 e2 : af), s.i <= toks.length -> rem toks s <= r -> r <= k -> (s.bad = none -> e1 = e2 /\ wtE e1 + i0 <= s.i) ->
  ∃ (s' : PS) (x y : af), ah (VU fa) (pkI toks s e1) = some (encI toks s', x) /\ ah (VT ga) (pkS toks stop s e2) = some (encS toks stop s', y) /\ (s'.bad = none -> x = y /\ wtE x + i0 <= s'.i) /\ Adv toks s s' := by
 intro r
 induction r with
 | zero =>
  intro s e1 e2 hs hr hk he
  have hc : sees toks s [42] = false := by
   cases hc : sees toks s [42] with
   | false => rfl
   | true => have := (dU (aZ hc).1 (aZ hc).2).2; omega
  refine ⟨s, e1, e2, ?_, ?_, he, Adv.refl hs⟩
  ·rw [aH, zQ h, hc]; rfl
  ·rw [aH, zO h, hc]; rfl
 | succ r ih =>
  intro s e1 e2 hs hr hk he
  cases hc : sees toks s [42] with
  | false =>
   refine ⟨s, e1, e2, ?_, ?_, he, Adv.refl hs⟩
   ·rw [aH, zQ h, hc]; rfl
   ·rw [aH, zO h, hc]; rfl
  | true =>
   obtain ⟨hn, hrem⟩ := dU (aZ hc).1 (aZ hc).2
   obtain ⟨s1, x, y, q1, q2, q3, q4⟩ := hA (aX s) hn.len (by omega)
   have hr1 := q4.rem
   obtain ⟨s', x', y', p1, p2, p3, p4⟩ := ih s1 ⟨6, 3, [], [e1, x]⟩ ⟨6, 3, [], [e2, y]⟩ q4.len (by omega) (by omega) (fun hb => by
    have a1 := q3 hb
    have a2 := he (aZ hc).1
    refine ⟨by rw [a1.1, a2.1], ?_⟩
    have a3 := a1.2
    rw [iK] at a3
    rw [Au, Ar]
    omega)
   refine ⟨s', x', y', ?_, ?_, p3, (hn.trans q4).trans p4⟩
   ·rw [aH, zQ h, hc]
    simp only [if_true, q1, zA]
    exact p1
   ·rw [aH, zO h, hc]
    simp only [if_true, q2, zA]
    exact p2
theorem Y8 (h : cu toks stop) {k : Nat} {fa ga} (hA : ∀ s, s.i <= toks.length -> rem toks s <= k -> Sim wtE toks stop fa ga s) (r1 r2 r3 r5 t1 t2 t3 t4 t6) (s : PS) (hs : s.i <= toks.length) (hk : rem toks s <= k) :
  Sim wtE toks stop (nD r1 r2 r3 fa r5) (tK t1 t2 t3 t4 ga t6) s := by
 obtain ⟨s1, x, y, q1, q2, q3, q4⟩ := hA s hs hk
 have hr1 := q4.rem
 obtain ⟨s', x', y', p1, p2, p3, p4⟩ := Xz h hA (rem toks s1) s1 x y q4.len (Nat.le_refl _) (by omega) q3
 refine ⟨s', x', y', ?_, ?_, p3, q4.trans p4⟩
 ·rw [abb, q1]; exact p1
 ·rw [aa9, q2]; exact p2
def V4 {toks : List aG} (fa : aN -> Option (aN × af)) (s : PS) (e : af) (op : Int) : Option (IX ⊕ (aN × af)) := (fa (encI toks (aX s))).bind fun r => some (.inl (r.1.toks, r.1.i, r.1.bad, 0, 0, [], [], 6, op, [], [e, r.2]))
def V3 {toks : List aG} {stop : Int} (ga : GRd -> Option (GRd × af)) (s : PS) (e : af) (op : Int) : Option (SX ⊕ (GRd × af)) := (ga (encS toks stop (aX s))).bind fun r => some (.inl (r.1.toks, r.1.i, r.1.stop, r.1.bad, 0, 0, [], [], 6, op, [], [e, r.2]))
theorem xM (h : cu toks stop) (fa) (s : PS) (e : af) : WV fa (pkI toks s e) = if sees toks s [43] = true then V4 (toks := toks) fa s e 1 else if sees toks s [45] = true then V4 (toks := toks) fa s e 2 else some (.inr (encI toks s, e)) := by
 obtain ⟨ek, en, et, ea⟩ := e
 have e0 : (aN.mk (pkI toks s ⟨ek, en, et, ea⟩).1 (pkI toks s ⟨ek, en, et, ea⟩).2.1 (pkI toks s ⟨ek, en, et, ea⟩).2.2.1) = encI toks s := rfl
 unfold WV
 simp only [e0]
 cases hb : s.bad with
 | some b =>
  have d0 : decide ((pkI toks s ⟨ek, en, et, ea⟩).2.2.1 < 0) = false := by
   show decide ((encI toks s).bad < 0) = false
   simp [encI, hb]
  have c1 : ∀ x, sees toks s x = false := fun x => by unfold sees; rw [hb]
  rw [d0, c1, c1]; rfl
 | none =>
  have d0 : decide ((pkI toks s ⟨ek, en, et, ea⟩).2.2.1 < 0) = true := by
   show decide ((encI toks s).bad < 0) = true
   simp [encI, hb]
  rw [d0]
  simp only [cond_true, iy h s [43] rfl, zA]
  cases hc : sees toks s [43] with
  | true => simp only [Bool.not_true, cond_false, if_true, bF]; rfl
  | false =>
   simp only [Bool.not_false, cond_true, Bool.false_eq_true, if_false, iy h s [45] rfl, zA]
   cases hc2 : sees toks s [45] with
   | true => simp only [Bool.not_true, cond_false, if_true, bF]; rfl
   | false => simp only [Bool.not_false, cond_true, Bool.false_eq_true, if_false]; rfl
theorem xK (h : cu toks stop) (ga) (s : PS) (e : af) : WU ga (pkS toks stop s e) = if sees toks s [43] = true then V3 (toks := toks) (stop := stop) ga s e 1 else if sees toks s [45] = true then V3 (toks := toks) (stop := stop) ga s e 2 else some (.inr (encS toks stop s, e)) := by
 obtain ⟨ek, en, et, ea⟩ := e
 have e0 : (GRd.mk (pkS toks stop s ⟨ek, en, et, ea⟩).1 (pkS toks stop s ⟨ek, en, et, ea⟩).2.1 (pkS toks stop s ⟨ek, en, et, ea⟩).2.2.1 (pkS toks stop s ⟨ek, en, et, ea⟩).2.2.2.1) = encS toks stop s := rfl
 unfold WU
 simp only [e0, mJ h s, zA]
 cases hc : sees toks s [43] with
 | true =>
  have hc2 := VI hc (show ([43] : Str) ≠ [45] by decide)
  simp only [cond_true, if_true, hc2, cond_false]
  rw [jk h (aZ hc).2]
  simp only [jl, zA, bF]
  rfl
 | false =>
  simp only [cond_false, Bool.false_eq_true, if_false]
  cases hc2 : sees toks s [45] with
  | true =>
   simp only [cond_true, if_true]
   rw [jk h (aZ hc2).2]
   simp only [jl, zA, bF]
   rfl
  | false => simp only [cond_false, Bool.false_eq_true, if_false]; rfl
theorem Yw (h : cu toks stop) {k i0 : Nat} {fa ga} (hA : ∀ s, s.i <= toks.length -> rem toks s <= k -> Sim wtE toks stop fa ga s) : ∀ (r : Nat) (s : PS) (e1 e2 : af), s.i <= toks.length -> rem toks s <= r -> r <= k -> (s.bad = none -> e1 = e2 /\ wtE e1 + i0 <= s.i) ->
  ∃ (s' : PS) (x y : af), ah (WV fa) (pkI toks s e1) = some (encI toks s', x) /\ ah (WU ga) (pkS toks stop s e2) = some (encS toks stop s', y) /\ (s'.bad = none -> x = y /\ wtE x + i0 <= s'.i) /\ Adv toks s s' := by
 intro r
 induction r with
 | zero =>
  intro s e1 e2 hs hr hk he
  have hc : ∀ x, sees toks s x = false := by
   intro x
   cases hc : sees toks s x with
   | false => rfl
   | true => have := (dU (aZ hc).1 (aZ hc).2).2; omega
  refine ⟨s, e1, e2, ?_, ?_, he, Adv.refl hs⟩
  ·rw [aH, xM h, hc, hc]; rfl
  ·rw [aH, xK h, hc, hc]; rfl
 | succ r ih =>
  intro s e1 e2 hs hr hk he
  have go : ∀ (x : Str) (op : Int), sees toks s x = true -> WV fa (pkI toks s e1) = V4 (toks := toks) fa s e1 op -> WU ga (pkS toks stop s e2) = V3 (toks := toks) (stop := stop) ga s e2 op ->
    ∃ (s' : PS) (x y : af), ah (WV fa) (pkI toks s e1) = some (encI toks s', x) /\ ah (WU ga) (pkS toks stop s e2) = some (encS toks stop s', y) /\ (s'.bad = none -> x = y /\ wtE x + i0 <= s'.i) /\ Adv toks s s' := by
   intro x0 op hc hI hS
   obtain ⟨hn, hrem⟩ := dU (aZ hc).1 (aZ hc).2
   obtain ⟨s1, x, y, q1, q2, q3, q4⟩ := hA (aX s) hn.len (by omega)
   have hr1 := q4.rem
   obtain ⟨s', x', y', p1, p2, p3, p4⟩ := ih s1 ⟨6, op, [], [e1, x]⟩ ⟨6, op, [], [e2, y]⟩ q4.len (by omega) (by omega) (fun hb => by
    have a1 := q3 hb
    have a2 := he (aZ hc).1
    refine ⟨by rw [a1.1, a2.1], ?_⟩
    have a3 := a1.2
    rw [iK] at a3
    rw [Au, Ar]
    omega)
   refine ⟨s', x', y', ?_, ?_, p3, (hn.trans q4).trans p4⟩
   ·rw [aH, hI]
    simp only [V4, q1, zA]
    exact p1
   ·rw [aH, hS]
    simp only [V3, q2, zA]
    exact p2
  cases hc : sees toks s [43] with
  | true => exact go [43] 1 hc (by rw [xM h, hc, if_pos rfl]) (by rw [xK h, hc, if_pos rfl])
  | false =>
   cases hc2 : sees toks s [45] with
   | true => exact go [45] 2 hc2 (by rw [xM h, hc, hc2, if_neg Bool.false_ne_true, if_pos rfl]) (by rw [xK h, hc, hc2, if_neg Bool.false_ne_true, if_pos rfl])
   | false =>
    refine ⟨s, e1, e2, ?_, ?_, he, Adv.refl hs⟩
    ·rw [aH, xM h, hc, hc2]; rfl
    ·rw [aH, xK h, hc, hc2]; rfl
theorem aaO (h : cu toks stop) {k : Nat} {fa ga} (hA : ∀ s, s.i <= toks.length -> rem toks s <= k -> Sim wtE toks stop fa ga s) (r1 r2 r4 r5 t1 t2 t3 t5 t6) (s : PS) (hs : s.i <= toks.length) (hk : rem toks s <= k) :
  Sim wtE toks stop (wS r1 r2 fa r4 r5) (Hl t1 t2 t3 ga t5 t6) s := by
 obtain ⟨s1, x, y, q1, q2, q3, q4⟩ := hA s hs hk
 have hr1 := q4.rem
 obtain ⟨s', x', y', p1, p2, p3, p4⟩ := Yw h hA (rem toks s1) s1 x y q4.len (Nat.le_refl _) (by omega) q3
 refine ⟨s', x', y', ?_, ?_, p3, q4.trans p4⟩
 ·rw [adE, q1]; exact p1
 ·rw [adD, q2]; exact p2
abbrev IL := (List aG) × Int × Int × Str × (List af)
abbrev SL := (List aG) × Int × Int × Int × Str × (List af)
def plI (toks : List aG) (s : PS) (b : Str) (o : List af) : IL := ((encI toks s).toks, (encI toks s).i, (encI toks s).bad, b, o)
def plS (toks : List aG) (stop : Int) (s : PS) (b : Str) (o : List af) : SL := ((encS toks stop s).toks, (encS toks stop s).i, (encS toks stop s).stop, (encS toks stop s).bad, b, o)
def BJ (fa : aN -> Option (aN × af)) : IL -> Option (IL ⊕ (aN × List af)) := (fun (x2 : (List aG) × Int × Int × Str × (List af)) =>
  bif (decide (x2.2.2.1 < 0)) then
   (fa (aN.mk x2.1 x2.2.1 x2.2.2.1)).bind fun r3 =>
   (gd (x2.2.2.2.2.length + [aj r3.2].length)).bind fun _ =>
   (aT r3.1 x2.2.2.2.1).bind fun r4 =>
   bif r4.2 then
    some (.inr (r4.1, x2.2.2.2.2 ++ [aj r3.2]))
   else
    (bD r4.1 [44]).bind fun r5 =>
    some (.inl (r5.toks, r5.i, r5.bad, x2.2.2.2.1, x2.2.2.2.2 ++ [aj r3.2]))
  else
   some (.inr (aN.mk x2.1 x2.2.1 x2.2.2.1, x2.2.2.2.2))
 )
def BI (ga : GRd -> Option (GRd × af)) : SL -> Option (SL ⊕ (GRd × List af)) := (fun (x2 : (List aG) × Int × Int × Int × Str × (List af)) =>
  bif (decide (x2.2.2.2.1 < 0)) then
   (ga (GRd.mk x2.1 x2.2.1 x2.2.2.1 x2.2.2.2.1)).bind fun r3 =>
   (gd (x2.2.2.2.2.2.length + [aj r3.2].length)).bind fun _ =>
   (dF r3.1 [44]).bind fun r4 =>
   bif (!r4.2) then
    (
     (dH r4.1 x2.2.2.2.2.1).bind fun r5 =>
     some (r5, x2.2.2.2.2.2 ++ [aj r3.2])
    ).bind fun r => some (.inr r)
   else
    some (.inl (r4.1.toks, w64 (r4.1.i + 1), r4.1.stop, r4.1.bad, x2.2.2.2.2.1, x2.2.2.2.2.2 ++ [aj r3.2]))
  else
   (
    (dH (GRd.mk x2.1 x2.2.1 x2.2.2.1 x2.2.2.2.1) x2.2.2.2.2.1).bind fun r6 =>
    some (r6, x2.2.2.2.2.2)
   ).bind fun r => some (.inr r)
 )
theorem V7 (fa r2 r3 r4 r5) (a : aN) (b : Str) : jQ fa r2 r3 r4 r5 a b = (aT a b).bind fun r1 => bif r1.2 then some (r1.1, []) else ah (BJ fa) (r1.1.toks, r1.1.i, r1.1.bad, b, []) := rfl
theorem V6 (ga r2 r3 r4 r5 r6) (a : GRd) (b : Str) : qX ga r2 r3 r4 r5 r6 a b = (dF a b).bind fun r1 => bif r1.2 then some (GRd.mk r1.1.toks (w64 (r1.1.i + 1)) r1.1.stop r1.1.bad, []) else ah (BI ga) (r1.1.toks, r1.1.i, r1.1.stop, r1.1.bad, b, []) := rfl
theorem aay {s : PS} : decide ((encI toks s).bad < 0) = s.bad.isNone := by
 unfold encI
 cases s.bad with
 | none => rfl
 | some b => simp
theorem aax (h : cu toks stop) {s : PS} : decide ((encS toks stop s).bad < 0) = s.bad.isNone := by
 unfold encS
 cases s.bad with
 | none => rfl
 | some b =>
  have := jF h b
  simp; omega
theorem gdp {n : Nat} (h : n <= 34359738368) : gd n = some () := by unfold gd; simp [h]
theorem I9 (fa) {s : PS} (hb : s.bad.isNone = false) (b : Str) (o : List af) : ah (BJ fa) (plI toks s b o) = some (encI toks s, o) := by
 rw [aH]
 have e : BJ fa (plI toks s b o) = some (.inr (encI toks s, o)) := by
  unfold BJ
  show (bif decide ((encI toks s).bad < 0) then _ else _) = _
  rw [aay, hb]; rfl
 rw [e]
theorem aad {s : PS} (hb : s.bad.isNone = false) : fZ s = s := by
 unfold fZ
 cases h : s.bad with
 | some b => rfl
 | none => rw [h] at hb; cases hb
theorem UQ (h : cu toks stop) (ga) {s : PS} (hb : s.bad.isNone = false) (b : Str) (o : List af) : ah (BI ga) (plS toks stop s b o) = some (encS toks stop s, o) := by
 rw [aH]
 have e : BI ga (plS toks stop s b o) = some (.inr (encS toks stop s, o)) := by
  unfold BI
  show (bif decide ((encS toks stop s).bad < 0) then _ else ((dH (encS toks stop s) b).bind fun r6 => some (r6, o)).bind fun r => some (Sum.inr r)) = _
  have ht : dO toks s b = s := by
   have : sees toks s b = false := by
    unfold sees
    cases h : s.bad with
    | some b => rfl
    | none => rw [h] at hb; cases hb
   unfold dO
   rw [this, if_neg Bool.false_ne_true, aad hb]
  rw [aax h, hb, oV h, ht]; rfl
 rw [e]
theorem XJ (h : cu toks stop) {k i0 : Nat} {fa ga} (hA : ∀ s, s.i <= toks.length -> rem toks s <= k -> Sim wtE toks stop fa ga s) (b : Str) (hlb : letter b = false) (hbc : b ≠ [44]) : ∀ (r : Nat) (s : PS) (o1 o2 : List af), s.i <= toks.length -> rem toks s <= r -> r <= k -> o1.length <= s.i -> o2.length <= s.i -> (s.bad = none -> o1 = o2 /\ wtL o1 + i0 <= s.i) ->
  ∃ (s' : PS) (x y : List af), ah (BJ fa) (plI toks s b o1) = some (encI toks s', x) /\ ah (BI ga) (plS toks stop s b o2) = some (encS toks stop s', y) /\ (s'.bad = none -> x = y /\ wtL x + i0 <= s'.i) /\ Adv toks s s' := by
 have step : ∀ (s : PS) (o1 o2 : List af), s.i <= toks.length -> rem toks s <= k -> o1.length <= s.i -> o2.length <= s.i -> (s.bad = none -> o1 = o2 /\ wtL o1 + i0 <= s.i) ->
   (∀ (s1 : PS) (q1 q2 : List af), s1.i <= toks.length -> rem toks s1 + 1 <= rem toks s -> q1.length <= s1.i -> q2.length <= s1.i -> (s1.bad = none -> q1 = q2 /\ wtL q1 + i0 <= s1.i) -> ∃ (s' : PS) (x y : List af), ah (BJ fa) (plI toks s1 b q1) = some (encI toks s', x) /\ ah (BI ga) (plS toks stop s1 b q2) = some (encS toks stop s', y) /\ (s'.bad = none -> x = y /\ wtL x + i0 <= s'.i) /\ Adv toks s1 s') ->
   ∃ (s' : PS) (x y : List af), ah (BJ fa) (plI toks s b o1) = some (encI toks s', x) /\ ah (BI ga) (plS toks stop s b o2) = some (encS toks stop s', y) /\ (s'.bad = none -> x = y /\ wtL x + i0 <= s'.i) /\ Adv toks s s' := by
  intro s o1 o2 hs hk h1 h2 he ih
  cases hb : s.bad.isNone with
  | false => exact ⟨s, o1, o2, I9 fa hb b o1, UQ h ga hb b o2, he, Adv.refl hs⟩
  | true =>
   have hlen := h.len
   obtain ⟨s1, x, y, p1, p2, p3, p4⟩ := hA s hs hk
   have hsb : s.bad = none := by cases hh : s.bad with
    | none => rfl
    | some b => rw [hh] at hb; cases hb
   have hoe := he hsb
   have eI : BJ fa (plI toks s b o1) = (if sees toks s1 b = true then some (Sum.inr (encI toks (aX s1), o1 ++ [x])) else some (Sum.inl (plI toks (dO toks s1 [44]) b (o1 ++ [x])))) := by
    unfold BJ
    show (bif decide ((encI toks s).bad < 0) then (fa (encI toks s)).bind fun r3 => (gd (o1.length + [aj r3.2].length)).bind fun _ => (aT r3.1 b).bind fun r4 => bif r4.2 then some (Sum.inr (r4.1, o1 ++ [aj r3.2])) else (bD r4.1 [44]).bind fun r5 => some (Sum.inl (r5.toks, r5.i, r5.bad, b, o1 ++ [aj r3.2])) else _) = _
    rw [aay, hb]
    simp only [cond_true, p1, zA, bF, iy h s1 b hlb]
    rw [gdp (by simp; omega)]
    simp only [zA]
    cases hc : sees toks s1 b with
    | true => simp
    | false =>
     simp only [cond_false, Bool.false_eq_true, if_false, rZ h, zA]
     rfl
   have eS : BI ga (plS toks stop s b o2) = (if sees toks s1 [44] = true then some (Sum.inl (plS toks stop (aX s1) b (o2 ++ [y]))) else some (Sum.inr (encS toks stop (dO toks s1 b), o2 ++ [y]))) := by
    unfold BI
    show (bif decide ((encS toks stop s).bad < 0) then (ga (encS toks stop s)).bind fun r3 => (gd (o2.length + [aj r3.2].length)).bind fun _ => (dF r3.1 [44]).bind fun r4 => bif (!r4.2) then (((dH r4.1 b).bind fun r5 => some (r5, o2 ++ [aj r3.2])).bind fun r => some (Sum.inr r)) else some (Sum.inl (r4.1.toks, w64 (r4.1.i + 1), r4.1.stop, r4.1.bad, b, o2 ++ [aj r3.2])) else _) = _
    rw [aax h, hb]
    simp only [cond_true, p2, zA, bF, mJ h s1 [44]]
    rw [gdp (by simp; omega)]
    simp only [zA]
    cases hc : sees toks s1 [44] with
    | true =>
     simp only [Bool.not_true, cond_false, if_true]
     have := jk (toks := toks) (stop := stop) (s := s1) h (aZ hc).2
     have e1 := congrArg GRd.i this
     have e1 : w64 ((encS toks stop s1).i + 1) = (encS toks stop (aX s1)).i := e1
     rw [e1]; rfl
    | false => simp only [Bool.not_false, cond_true, Bool.false_eq_true, if_false, oV h, zA]
   cases hc : sees toks s1 b with
   | true =>
    have hc2 := VI hc hbc
    obtain ⟨hn, _⟩ := dU (aZ hc).1 (aZ hc).2
    refine ⟨aX s1, o1 ++ [x], o2 ++ [y], ?_, ?_, fun hh => (by
     have a1 := p3 (aZ hc).1
     refine ⟨by rw [hoe.1, a1.1], ?_⟩
     have a2 := a1.2
     have a3 := hoe.2
     rw [sS, NP, iK]
     omega), p4.trans hn⟩
    ·rw [aH, eI, hc]; rfl
    ·rw [aH, eS, hc2]
     simp only [Bool.false_eq_true, if_false]
     unfold dO
     rw [hc, if_pos rfl]
   | false =>
    cases hc2 : sees toks s1 [44] with
    | true =>
     obtain ⟨hn, hr⟩ := dU (aZ hc2).1 (aZ hc2).2
     have hr1 := p4.rem
     have hle := p4.le
     obtain ⟨s', x', y', q1, q2, q3, q4⟩ := ih (aX s1) (o1 ++ [x]) (o2 ++ [y]) hn.len (by omega) (by simp [aX]; omega) (by simp [aX]; omega) (fun _ => by
      have a1 := p3 (aZ hc2).1
      refine ⟨by rw [hoe.1, a1.1], ?_⟩
      have a2 := a1.2
      have a3 := hoe.2
      rw [sS, NP, iK]
      omega)
     refine ⟨s', x', y', ?_, ?_, q3, (p4.trans hn).trans q4⟩
     ·rw [aH, eI, hc]
      simp only [Bool.false_eq_true, if_false]
      have e : dO toks s1 [44] = aX s1 := by unfold dO; rw [hc2, if_pos rfl]
      rw [e]; exact q1
     ·rw [aH, eS, hc2]; exact q2
    | false =>
     have e : dO toks s1 [44] = fZ s1 := by unfold dO; rw [hc2, if_neg Bool.false_ne_true]
     have e2 : dO toks s1 b = fZ s1 := by unfold dO; rw [hc, if_neg Bool.false_ne_true]
     obtain ⟨b1, hb1⟩ := SH s1
     have hbn : (fZ s1).bad.isNone = false := by rw [hb1]; rfl
     refine ⟨fZ s1, o1 ++ [x], o2 ++ [y], ?_, ?_, fun hh => (by rw [hb1] at hh; cases hh), p4.trans (Cj p4.len)⟩
     ·rw [aH, eI, hc]
      simp only [Bool.false_eq_true, if_false, e]
      exact I9 fa hbn b _
     ·rw [aH, eS, hc2]
      simp only [Bool.false_eq_true, if_false, e2]
 intro r
 induction r with
 | zero =>
  intro s o1 o2 hs hr hk h1 h2 he
  exact step s o1 o2 hs (by omega) h1 h2 he fun s1 q1 q2 _ hlt => by omega
 | succ r ih =>
  intro s o1 o2 hs hr hk h1 h2 he
  exact step s o1 o2 hs (by omega) h1 h2 he fun s1 q1 q2 a1 a2 a3 a4 a5 => ih s1 q1 q2 a1 (by omega) (by omega) a3 a4 a5
theorem Zy (h : cu toks stop) {k : Nat} {fa ga} (hA : ∀ s, s.i <= toks.length -> rem toks s <= k -> Sim wtE toks stop fa ga s) (b : Str) (hlb : letter b = false) (hbc : b ≠ [44]) (r2 r3 r4 r5 t2 t3 t4 t5 t6) (s : PS) (hs : s.i <= toks.length) (hk : rem toks s <= k) :
  Sim wtL toks stop (fun a => jQ fa r2 r3 r4 r5 a b) (fun a => qX ga t2 t3 t4 t5 t6 a b) s := by
 cases hc : sees toks s b with
 | true =>
  obtain ⟨hn, _⟩ := dU (aZ hc).1 (aZ hc).2
  refine ⟨aX s, [], [], ?_, ?_, fun _ => ⟨rfl, by rw [iK]; simp [wtL]⟩, hn⟩
  ·show jQ fa r2 r3 r4 r5 (encI toks s) b = _
   rw [V7, iy h s b hlb, hc]; rfl
  ·show qX ga t2 t3 t4 t5 t6 (encS toks stop s) b = _
   rw [V6, mJ h s b, hc]
   simp only [zA, cond_true]
   rw [jk h (aZ hc).2]
 | false =>
  obtain ⟨s', x', y', p1, p2, p3, p4⟩ := XJ h hA b hlb hbc (rem toks s) s [] [] hs (Nat.le_refl _) hk (Nat.zero_le _) (Nat.zero_le _) (fun _ => ⟨rfl, by show 0 + s.i <= s.i; omega⟩)
  refine ⟨s', x', y', ?_, ?_, p3, p4⟩
  ·show jQ fa r2 r3 r4 r5 (encI toks s) b = _
   rw [V7, iy h s b hlb, hc]; exact p1
  ·show qX ga t2 t3 t4 t5 t6 (encS toks stop s) b = _
   rw [V6, mJ h s b, hc]; exact p2
variable {toks : List aG} {stop : Int}
theorem adO {α : Type} {c : Bool} {x y : Option α} (hx : ∃ r, x = some r) (hy : ∃ r, y = some r) : ∃ r, (bif c then x else y) = some r := by
 cases c
 ·exact hy
 ·exact hx
theorem ab4 (a : Str) : ∃ r, dw a = some r := by
 unfold dw
 repeat refine adO ⟨_, rfl⟩ ?_
 exact ⟨_, rfl⟩
def Eh (a : Str) : Int := (dw a).getD (-1)
theorem QR (a : Str) : dw a = some (Eh a) := by
 obtain ⟨r, h⟩ := ab4 a
 unfold Eh
 rw [h]; rfl
theorem Z4 (a : Str) : dW a = some (Eh a) := (ZY a).trans (QR a)
def Me (toks : List aG) (fe : aN -> Option (aN × af)) (fl : aN -> Str -> Option (aN × List af)) (s : PS) : Option (aN × af) :=
 if sees toks s [91] = true then (fl (encI toks (aX s)) [93]).bind fun r => some (r.1, ⟨4, 0, [], r.2⟩)
 else if sees toks s [40] = true then (fe (encI toks (aX s))).bind fun r => (bD r.1 [41]).bind fun r2 => some (r2, r.2)
 else some (encI toks (fZ s), ⟨0, 0, [], []⟩)
def AL (toks : List aG) (stop : Int) (ge : GRd -> Option (GRd × af)) (gl : GRd -> Str -> Option (GRd × List af)) (s : PS) : Option (GRd × af) :=
 if sees toks s [91] = true then (gl (encS toks stop (aX s)) [93]).bind fun r => some (r.1, ⟨4, 0, [], r.2⟩)
 else if sees toks s [40] = true then (ge (encS toks stop (aX s))).bind fun r => (dH r.1 [41]).bind fun r2 => some (r2, r.2)
 else some (encS toks stop (fZ s), ⟨0, 0, [], []⟩)
def aaD (toks : List aG) (fe : aN -> Option (aN × af)) (fl : aN -> Str -> Option (aN × List af)) (s : PS) : Option (aN × af) :=
 if (aK toks s).kind = 2 then some (encI toks (aX s), ⟨1, (aK toks s).n, [], []⟩)
 else if (aK toks s).kind = 3 then some (encI toks (aX s), ⟨2, 0, (aK toks s).text, []⟩)
 else if (aK toks s).kind = 1 then
  if iU (aK toks s).text = true then some (encI toks (aX s), ⟨3, 0, (aK toks s).text, []⟩)
  else if 0 <= Eh (aK toks s).text then (fl (encI toks (dO toks (aX s) [40])) [41]).bind fun r => some (r.1, ⟨5, 0, (aK toks s).text, r.2⟩)
  else Me toks fe fl s
 else Me toks fe fl s
def aaB (toks : List aG) (stop : Int) (ge : GRd -> Option (GRd × af)) (gl : GRd -> Str -> Option (GRd × List af)) (s : PS) : Option (GRd × af) :=
 if (aK toks s).kind = 2 then some (encS toks stop (aX s), ⟨1, (aK toks s).n, [], []⟩)
 else if (aK toks s).kind = 3 then some (encS toks stop (aX s), ⟨2, 0, (aK toks s).text, []⟩)
 else if (aK toks s).kind = 1 then
  if iU (aK toks s).text = true then some (encS toks stop (aX s), ⟨3, 0, (aK toks s).text, []⟩)
  else if 0 <= Eh (aK toks s).text then (gl (encS toks stop (dO toks (aX s) [40])) [41]).bind fun r => some (r.1, ⟨5, 0, (aK toks s).text, r.2⟩)
  else AL toks stop ge gl s
 else AL toks stop ge gl s
theorem Qn (h : cu toks stop) (fe fl) (s : PS) : ((aT (encI toks s) [91]).bind fun r6 =>
      bif r6.2 then (fl r6.1 [93]).bind fun r7 => some (r7.1, af.mk 4 0 [] r7.2)
      else (aT r6.1 [40]).bind fun r8 => bif r8.2 then (fe r8.1).bind fun r9 => (bD r9.1 [41]).bind fun r10 => some (r10, aj r9.2)
       else (eY r8.1).bind fun r11 => some (r11.1, aj r11.2)) = Me toks fe fl s := by
 unfold Me
 rw [iy h s [91] rfl]
 simp only [zA, bF]
 cases hc : sees toks s [91] with
 | true => simp
 | false =>
  simp only [cond_false, Bool.false_eq_true, if_false, iy h s [40] rfl, zA]
  cases hc2 : sees toks s [40] with
  | true => simp
  | false => simp [JB]
theorem aaC (h : cu toks stop) (fe r2 r3 r4 fl) (s : PS) : nY fe r2 r3 r4 fl (encI toks s) = aaD toks fe fl s := by
 have hok := jv h s
 unfold nY aaD
 rw [rY h]
 simp only [zA, yu _ hok.len, Z4]
 have hnx : ¬ (aK toks s).kind = 0 -> (aN.mk (encI toks s).toks (w64 ((encI toks s).i + 1)) (encI toks s).bad) = encI toks (aX s) := fun h0 => wZ h (mX h0).2.1
 by_cases k2 : (aK toks s).kind = 2
 ·have e : ((aK toks s).kind == 2) = true := by simp [k2]
  rw [e, if_pos k2, hnx (by rw [k2]; decide)]; rfl
 ·have e2 : ((aK toks s).kind == 2) = false := by simp [k2]
  rw [e2, if_neg k2]
  simp only [cond_false]
  by_cases k3 : (aK toks s).kind = 3
  ·have e : ((aK toks s).kind == 3) = true := by simp [k3]
   rw [e, if_pos k3, hnx (by rw [k3]; decide)]; rfl
  ·have e3 : ((aK toks s).kind == 3) = false := by simp [k3]
   rw [e3, if_neg k3]
   simp only [cond_false]
   by_cases k1 : (aK toks s).kind = 1
   ·have e : ((aK toks s).kind == 1) = true := by simp [k1]
    rw [e, if_pos k1, hnx (by rw [k1]; decide)]
    simp only [cond_true]
    cases hv : iU (aK toks s).text with
    | true => rfl
    | false =>
     simp only [cond_false, Bool.false_eq_true, if_false]
     by_cases ha : 0 <= Eh (aK toks s).text
     ·have ea : decide (Eh (aK toks s).text >= 0) = true := by simpa using ha
      rw [ea, if_pos ha]
      simp only [cond_true, rZ h, zA]
     ·have ea : decide (Eh (aK toks s).text >= 0) = false := by simpa using ha
      rw [ea, if_neg ha]
      simp only [cond_false]
      exact Qn h fe fl s
   ·have e : ((aK toks s).kind == 1) = false := by simp [k1]
    rw [e, if_neg k1]
    simp only [cond_false]
    exact Qn h fe fl s
theorem Qm (h : cu toks stop) (ge gl) {s : PS} (hb : s.bad = none) (hi : s.i < toks.length) : ((fD (aK toks s) [91]).bind fun r16 =>
  bif r16 then (gl (GRd.mk (encS toks stop s).toks (w64 ((encS toks stop s).i + 1)) (encS toks stop s).stop (encS toks stop s).bad) [93]).bind fun r17 => some (r17.1, af.mk 4 0 [] r17.2)
  else (fD (aK toks s) [40]).bind fun r18 => bif r18 then (ge (GRd.mk (encS toks stop s).toks (w64 ((encS toks stop s).i + 1)) (encS toks stop s).stop (encS toks stop s).bad)).bind fun r19 => (dH r19.1 [41]).bind fun r20 => some (r20, aj r19.2)
   else (fH (encS toks stop s)).bind fun r21 => some (r21.1, aj r21.2)) = AL toks stop ge gl s := by
 unfold AL
 simp only [VJ, AO h s [91] rfl, AO h s [40] rfl, zA, bF, jk h hi, o6 h]
 cases hc : sees toks s [91] with
 | true => simp
 | false =>
  simp only [cond_false, Bool.false_eq_true, if_false]
  cases hc2 : sees toks s [40] with
  | true => simp
  | false => simp
theorem aaA (h : cu toks stop) (ge t2 t3 t4 t5 gl) (s : PS) : xY ge t2 t3 t4 t5 gl (encS toks stop s) = aaB toks stop ge gl s := by
 have hok := jv h s
 unfold xY aaB
 simp only [o6 h, zA, bF]
 have dead : ∀ (hz : aK toks s = ⟨0, 0, 0, []⟩), some (encS toks stop (fZ s), (⟨0, 0, [], []⟩ : af)) = (if (aK toks s).kind = 2 then some (encS toks stop (aX s), ⟨1, (aK toks s).n, [], []⟩)
   else if (aK toks s).kind = 3 then some (encS toks stop (aX s), ⟨2, 0, (aK toks s).text, []⟩)
   else if (aK toks s).kind = 1 then
    if iU (aK toks s).text = true then some (encS toks stop (aX s), ⟨3, 0, (aK toks s).text, []⟩)
    else if 0 <= Eh (aK toks s).text then (gl (encS toks stop (dO toks (aX s) [40])) [41]).bind fun r => some (r.1, ⟨5, 0, (aK toks s).text, r.2⟩)
    else AL toks stop ge gl s
   else AL toks stop ge gl s) := by
  intro hz
  have n1 : ∀ x, letter x = false -> sees toks s x = false := fun x hx => by rw [<- AO h s x hx, hz]; rfl
  rw [hz]
  unfold AL
  rw [n1 [91] rfl, n1 [40] rfl]
  rfl
 cases hb : s.bad with
 | some b =>
  have := jF h b
  have e : decide ((encS toks stop s).bad >= 0) = true := by simp [encS, hb]; omega
  rw [e]
  simp only [cond_true]
  exact dead (by unfold aK; rw [hb])
 | none =>
  have e : decide ((encS toks stop s).bad >= 0) = false := by simp [encS, hb]
  rw [e]
  simp only [cond_false]
  by_cases hi : s.i < toks.length
  ·have e1 : decide ((encS toks stop s).i >= ((encS toks stop s).toks.length : Int)) = false := by simp [encS]; omega
   have ht : toks[s.i]? = some (aK toks s) := by simp [aK, hb, zF hi]
   have hid : idx (encS toks stop s).toks (encS toks stop s).i = some (aK toks s) := by
    show idx toks (s.i : Int) = _
    rw [aB, ht]
   rw [e1]
   simp only [cond_false, hid, zA, xN _ hok.len, QR, OC, Hu, bF]
   by_cases k2 : (aK toks s).kind = 2
   ·have e : ((aK toks s).kind == 2) = true := by simp [k2]
    rw [e, if_pos k2, jk h hi]; rfl
   ·have e2 : ((aK toks s).kind == 2) = false := by simp [k2]
    rw [e2, if_neg k2]
    simp only [cond_false]
    by_cases k3 : (aK toks s).kind = 3
    ·have e : ((aK toks s).kind == 3) = true := by simp [k3]
     rw [e, if_pos k3, jk h hi]; rfl
    ·have e3 : ((aK toks s).kind == 3) = false := by simp [k3]
     rw [e3, if_neg k3]
     simp only [cond_false]
     by_cases k1 : (aK toks s).kind = 1
     ·have e : ((aK toks s).kind == 1) = true := by simp [k1]
      rw [e, if_pos k1]
      simp only [cond_true]
      cases hv : iU (aK toks s).text with
      | true => simp only [cond_true, if_true, jk h hi]
      | false =>
       simp only [cond_false, Bool.false_eq_true, if_false]
       by_cases ha : 0 <= Eh (aK toks s).text
       ·have ea : decide (Eh (aK toks s).text >= 0) = true := by simpa using ha
        rw [ea, if_pos ha, jk h hi]
        simp only [cond_true, oV h, zA]
       ·have ea : decide (Eh (aK toks s).text >= 0) = false := by simpa using ha
        rw [ea, if_neg ha]
        simp only [cond_false]
        have := Qm h ge gl hb hi
        simp only [bF, o6 h, zA] at this
        exact this
     ·have e : ((aK toks s).kind == 1) = false := by simp [k1]
      rw [e, if_neg k1]
      simp only [cond_false]
      have := Qm h ge gl hb hi
      simp only [bF, o6 h, zA] at this
      exact this
  ·have e1 : decide ((encS toks stop s).i >= ((encS toks stop s).toks.length : Int)) = true := by simp [encS]; omega
   have ht : toks[s.i]? = none := zJ (by omega)
   rw [e1]
   simp only [cond_true]
   exact dead (by unfold aK; rw [hb]; simp [ht])
theorem xG {s s' : PS} (h : Adv toks s s') (hb : s'.bad = none) : s.bad = none := by
 cases hs : s.bad with
 | none => rfl
 | some b => rw [h.bad b hs, hs] at hb; cases hb
theorem Yu (h : cu toks stop) {k : Nat} {fe ge fl gl} (hE : ∀ s, s.i <= toks.length -> rem toks s + 1 <= k -> Sim wtE toks stop fe ge s)
  (hL : ∀ b, letter b = false -> b ≠ [44] -> ∀ s, s.i <= toks.length -> rem toks s + 1 <= k -> Sim wtL toks stop (fun a => fl a b) (fun a => gl a b) s) (s : PS) (hs : s.i <= toks.length) (hk : rem toks s <= k) :
  ∃ (s' : PS) (x y : af), Me toks fe fl s = some (encI toks s', x) /\ AL toks stop ge gl s = some (encS toks stop s', y) /\ (s'.bad = none -> x = y /\ wtE x + s.i <= s'.i) /\ Adv toks s s' := by
 unfold Me AL
 cases hc : sees toks s [91] with
 | true =>
  obtain ⟨hn, hr⟩ := dU (aZ hc).1 (aZ hc).2
  obtain ⟨s1, x, y, p1, p2, p3, p4⟩ := hL [93] rfl (by decide) (aX s) hn.len (by omega)
  refine ⟨s1, ⟨4, 0, [], x⟩, ⟨4, 0, [], y⟩, ?_, ?_, fun hb => (by
   have a1 := p3 hb
   refine ⟨by rw [a1.1], ?_⟩
   have a2 := a1.2
   rw [iK] at a2
   rw [Au]
   omega), hn.trans p4⟩
  ·simp only [if_true]
   rw [show fl (encI toks (aX s)) [93] = _ from p1]; rfl
  ·simp only [if_true]
   rw [show gl (encS toks stop (aX s)) [93] = _ from p2]; rfl
 | false =>
  simp only [Bool.false_eq_true, if_false]
  cases hc2 : sees toks s [40] with
  | true =>
   obtain ⟨hn, hr⟩ := dU (aZ hc2).1 (aZ hc2).2
   obtain ⟨s1, x, y, p1, p2, p3, p4⟩ := hE (aX s) hn.len (by omega)
   have ht := mr (x := [41]) p4.len
   refine ⟨dO toks s1 [41], x, y, ?_, ?_, fun hb => (by
    have a1 := p3 (xG ht hb)
    refine ⟨a1.1, ?_⟩
    have a2 := a1.2
    rw [iK] at a2
    have a3 := ht.le
    omega), (hn.trans p4).trans ht⟩
   ·simp only [if_true, p1, zA, rZ h]
   ·simp only [if_true, p2, zA, oV h]
  | false =>
   simp only [Bool.false_eq_true, if_false]
   obtain ⟨b1, hb1⟩ := SH s
   exact ⟨fZ s, _, _, rfl, rfl, fun hb => (by rw [hb1] at hb; cases hb), Cj hs⟩
theorem Pg {s : PS} {t : aG} (h : NH t) {k n : Int} {x : Str} (hx : x = [] \/ x = t.text) : wtE ⟨k, n, x, []⟩ + s.i <= (aX s).i := by
 have hl : x.length <= 120 := by
  rcases hx with rfl | rfl
  ·simp
  ·exact h.len
 rw [qN hl, iK]
 simp [wtL]
 omega
theorem aaz (h : cu toks stop) {k : Nat} {fe ge fl gl} (hE : ∀ s, s.i <= toks.length -> rem toks s + 1 <= k -> Sim wtE toks stop fe ge s)
  (hL : ∀ b, letter b = false -> b ≠ [44] -> ∀ s, s.i <= toks.length -> rem toks s + 1 <= k -> Sim wtL toks stop (fun a => fl a b) (fun a => gl a b) s) (r2 r3 r4 t2 t3 t4 t5) (s : PS) (hs : s.i <= toks.length) (hk : rem toks s <= k) :
  Sim wtE toks stop (nY fe r2 r3 r4 fl) (xY ge t2 t3 t4 t5 gl) s := by
 unfold Sim
 rw [aaC h, aaA h]
 have hT := Yu h hE hL s hs hk
 unfold aaD aaB
 by_cases k2 : (aK toks s).kind = 2
 ·obtain ⟨hn, _⟩ := dU (mX (s := s) (by rw [k2]; decide)).1 (mX (s := s) (by rw [k2]; decide)).2.1
  rw [if_pos k2, if_pos k2]
  exact ⟨aX s, _, _, rfl, rfl, fun _ => ⟨rfl, Pg (jv h s) (by first | exact .inl rfl | exact .inr rfl)⟩, hn⟩
 rw [if_neg k2, if_neg k2]
 by_cases k3 : (aK toks s).kind = 3
 ·obtain ⟨hn, _⟩ := dU (mX (s := s) (by rw [k3]; decide)).1 (mX (s := s) (by rw [k3]; decide)).2.1
  rw [if_pos k3, if_pos k3]
  exact ⟨aX s, _, _, rfl, rfl, fun _ => ⟨rfl, Pg (jv h s) (by first | exact .inl rfl | exact .inr rfl)⟩, hn⟩
 rw [if_neg k3, if_neg k3]
 by_cases k1 : (aK toks s).kind = 1
 ·obtain ⟨hn, hr⟩ := dU (mX (s := s) (by rw [k1]; decide)).1 (mX (s := s) (by rw [k1]; decide)).2.1
  rw [if_pos k1, if_pos k1]
  cases hv : iU (aK toks s).text with
  | true =>
   simp only [if_true]
   exact ⟨aX s, _, _, rfl, rfl, fun _ => ⟨rfl, Pg (jv h s) (by first | exact .inl rfl | exact .inr rfl)⟩, hn⟩
  | false =>
   simp only [Bool.false_eq_true, if_false]
   by_cases ha : 0 <= Eh (aK toks s).text
   ·rw [if_pos ha, if_pos ha]
    have ht := mr (x := [40]) hn.len
    have htr := ht.rem
    obtain ⟨s1, x, y, p1, p2, p3, p4⟩ := hL [41] rfl (by decide) (dO toks (aX s) [40]) ht.len (by omega)
    refine ⟨s1, ⟨5, 0, (aK toks s).text, x⟩, ⟨5, 0, (aK toks s).text, y⟩, ?_, ?_, fun hb => (by
     have a1 := p3 hb
     refine ⟨by rw [a1.1], ?_⟩
     have a2 := a1.2
     have a3 := ht.le
     rw [iK] at a3
     rw [qN (jv h s).len]
     omega), (hn.trans ht).trans p4⟩
    ·rw [show fl (encI toks (dO toks (aX s) [40])) [41] = _ from p1]; rfl
    ·rw [show gl (encS toks stop (dO toks (aX s) [40])) [41] = _ from p2]; rfl
   ·rw [if_neg ha, if_neg ha]; exact hT
 ·rw [if_neg k1, if_neg k1]; exact hT
abbrev CX := (List aG) × Int × Int × Int × Int × Str × (List af) × Int × Int × Str × (List af) × (List Int) × Int × Int
def JU (fs : aN -> Option (aN × af)) : CX -> Option (CX ⊕ (aN × af)) := (fun (x23 : (List aG) × Int × Int × Int × Int × Str × (List af) × Int × Int × Str × (List af) × (List Int) × Int × Int) =>
  bif (decide (x23.2.2.2.2.2.2.2.2.2.2.2.2.2 < x23.2.2.2.2.2.2.2.2.2.2.2.2.1)) then
   (idx x23.2.2.2.2.2.2.2.2.2.2.2.1 x23.2.2.2.2.2.2.2.2.2.2.2.2.2).bind fun _ =>
   (x23.2.2.2.2.2.2.2.2.2.2.2.1[x23.2.2.2.2.2.2.2.2.2.2.2.2.2.toNat]?).bind fun e25 =>
   (DU e25).bind fun r26 =>
   (aT (aN.mk x23.1 x23.2.1 x23.2.2.1) r26).bind fun r27 =>
   bif r27.2 then
    (fs r27.1).bind fun r28 =>
    some (.inr (r28.1, af.mk 6 e25 [] [af.mk x23.2.2.2.2.2.2.2.1 x23.2.2.2.2.2.2.2.2.1 x23.2.2.2.2.2.2.2.2.2.1 x23.2.2.2.2.2.2.2.2.2.2.1, aj r28.2]))
   else
    some (.inl (r27.1.toks, r27.1.i, r27.1.bad, x23.2.2.2.1, x23.2.2.2.2.1, x23.2.2.2.2.2.1, x23.2.2.2.2.2.2.1, x23.2.2.2.2.2.2.2.1, x23.2.2.2.2.2.2.2.2.1, x23.2.2.2.2.2.2.2.2.2.1, x23.2.2.2.2.2.2.2.2.2.2.1, x23.2.2.2.2.2.2.2.2.2.2.2.1, x23.2.2.2.2.2.2.2.2.2.2.2.2.1, w64 (x23.2.2.2.2.2.2.2.2.2.2.2.2.2 + 1)))
  else
   some (.inr (aN.mk x23.1 x23.2.1 x23.2.2.1, af.mk x23.2.2.2.2.2.2.2.1 x23.2.2.2.2.2.2.2.2.1 x23.2.2.2.2.2.2.2.2.2.1 x23.2.2.2.2.2.2.2.2.2.2.1))
 )
def pkC (toks : List aG) (s : PS) (e : af) (j : Int) : CX := ((encI toks s).toks, (encI toks s).i, (encI toks s).bad, 0, 0, [], [], e.kind, e.n, e.text, e.args, [4, 5], 2, j)
def abX (toks : List aG) (fs : aN -> Option (aN × af)) (s : PS) (e : af) : Option (aN × af) :=
 if sees toks s [60] = true then (fs (encI toks (aX s))).bind fun r => some (r.1, ⟨6, 4, [], [e, r.2]⟩)
 else if sees toks s [61, 61] = true then (fs (encI toks (aX s))).bind fun r => some (r.1, ⟨6, 5, [], [e, r.2]⟩)
 else some (encI toks s, e)
theorem cmp_eq (h : cu toks stop) (fs) (s : PS) (e : af) : ah (JU fs) (pkC toks s e 0) = abX toks fs s e := by
 obtain ⟨ek, en, et, ea⟩ := e
 have s1 : JU fs (pkC toks s ⟨ek, en, et, ea⟩ 0) = if sees toks s [60] = true then (fs (encI toks (aX s))).bind fun r => some (.inr (r.1, ⟨6, 4, [], [⟨ek, en, et, ea⟩, r.2]⟩)) else some (.inl (pkC toks s ⟨ek, en, et, ea⟩ 1)) := by
  unfold JU
  show ((aT (encI toks s) [60]).bind fun r27 => bif r27.2 then (fs r27.1).bind fun r28 => some (Sum.inr (r28.1, af.mk 6 4 [] [⟨ek, en, et, ea⟩, aj r28.2])) else some (Sum.inl (r27.1.toks, r27.1.i, r27.1.bad, 0, 0, [], [], ek, en, et, ea, [4, 5], 2, w64 (0 + 1)))) = _
  rw [iy h s [60] rfl]
  simp only [zA, bF]
  cases hc : sees toks s [60] with
  | true => simp
  | false => simp only [cond_false, Bool.false_eq_true, if_false]; rfl
 have s2 : JU fs (pkC toks s ⟨ek, en, et, ea⟩ 1) = if sees toks s [61, 61] = true then (fs (encI toks (aX s))).bind fun r => some (.inr (r.1, ⟨6, 5, [], [⟨ek, en, et, ea⟩, r.2]⟩)) else some (.inl (pkC toks s ⟨ek, en, et, ea⟩ 2)) := by
  unfold JU
  show ((aT (encI toks s) [61, 61]).bind fun r27 => bif r27.2 then (fs r27.1).bind fun r28 => some (Sum.inr (r28.1, af.mk 6 5 [] [⟨ek, en, et, ea⟩, aj r28.2])) else some (Sum.inl (r27.1.toks, r27.1.i, r27.1.bad, 0, 0, [], [], ek, en, et, ea, [4, 5], 2, w64 (1 + 1)))) = _
  rw [iy h s [61, 61] rfl]
  simp only [zA, bF]
  cases hc : sees toks s [61, 61] with
  | true => simp
  | false => simp only [cond_false, Bool.false_eq_true, if_false]; rfl
 have s3 : JU fs (pkC toks s ⟨ek, en, et, ea⟩ 2) = some (.inr (encI toks s, ⟨ek, en, et, ea⟩)) := rfl
 unfold abX
 rw [aH, s1]
 cases hc : sees toks s [60] with
 | true =>
  simp only [if_true]
  cases fs (encI toks (aX s)) <;> rfl
 | false =>
  simp only [Bool.false_eq_true, if_false]
  rw [aH, s2]
  cases hc2 : sees toks s [61, 61] with
  | true =>
   simp only [if_true]
   cases fs (encI toks (aX s)) <;> rfl
  | false =>
   simp only [Bool.false_eq_true, if_false]
   rw [aH, s3]
theorem Yq {s s1 s2 : PS} {op : Int} {x y x2 y2 : af} (p : x2 = y2 /\ wtE x2 + (aX s1).i <= s2.i) (q : x = y /\ wtE x + s.i <= s1.i) : (⟨6, op, [], [x, x2]⟩ : af) = ⟨6, op, [], [y, y2]⟩ /\ wtE ⟨6, op, [], [x, x2]⟩ + s.i <= s2.i := by
 refine ⟨by rw [p.1, q.1], ?_⟩
 have a1 := p.2
 have a2 := q.2
 rw [iK] at a1
 rw [Au, Ar]
 omega
theorem abW (h : cu toks stop) {k : Nat} {fs gs} (hS : ∀ s, s.i <= toks.length -> rem toks s <= k -> Sim wtE toks stop fs gs s) (t1 t2 t4 t5 t6) (s : PS) (hs : s.i <= toks.length) (hk : rem toks s <= k) :
  Sim wtE toks stop (fun a => (fs a).bind fun r => ah (JU fs) (r.1.toks, r.1.i, r.1.bad, 0, 0, [], [], r.2.kind, r.2.n, r.2.text, r.2.args, [4, 5], ([4, 5].length : Int), 0)) (nO t1 t2 gs t4 t5 t6) s := by
 obtain ⟨s1, x, y, q1, q2, q3, q4⟩ := hS s hs hk
 have hr1 := q4.rem
 have eI : ((fs (encI toks s)).bind fun r => ah (JU fs) (r.1.toks, r.1.i, r.1.bad, 0, 0, [], [], r.2.kind, r.2.n, r.2.text, r.2.args, [4, 5], ([4, 5].length : Int), 0)) = abX toks fs s1 x := by
  rw [q1]
  exact cmp_eq h fs s1 x
 have eS : nO t1 t2 gs t4 t5 t6 (encS toks stop s) = (if sees toks s1 [60] = true then (gs (encS toks stop (aX s1))).bind fun r => some (r.1, ⟨6, 4, [], [y, r.2]⟩) else if sees toks s1 [61, 61] = true then (gs (encS toks stop (aX s1))).bind fun r => some (r.1, ⟨6, 5, [], [y, r.2]⟩) else some (encS toks stop s1, y)) := by
  unfold nO
  simp only [q2, zA, mJ h s1, jl, bF]
  cases hc : sees toks s1 [60] with
  | true =>
   simp only [cond_true, if_true]
   rw [jk h (aZ hc).2]
  | false =>
   simp only [cond_false, Bool.false_eq_true, if_false]
   cases hc2 : sees toks s1 [61, 61] with
   | true =>
    simp only [cond_true, if_true]
    rw [jk h (aZ hc2).2]
   | false => simp
 unfold Sim
 show ∃ (s' : PS) (x' y' : af), ((fs (encI toks s)).bind fun r => ah (JU fs) (r.1.toks, r.1.i, r.1.bad, 0, 0, [], [], r.2.kind, r.2.n, r.2.text, r.2.args, [4, 5], ([4, 5].length : Int), 0)) = _ /\ _
 rw [eI, eS]
 unfold abX
 cases hc : sees toks s1 [60] with
 | true =>
  obtain ⟨hn, hr⟩ := dU (aZ hc).1 (aZ hc).2
  obtain ⟨s2, x2, y2, p1, p2, p3, p4⟩ := hS (aX s1) hn.len (by omega)
  refine ⟨s2, ⟨6, 4, [], [x, x2]⟩, ⟨6, 4, [], [y, y2]⟩, ?_, ?_, fun hb => (Yq (p3 hb) (q3 (aZ hc).1)), (q4.trans hn).trans p4⟩
  ·simp only [if_true, p1, zA]
  ·simp only [if_true, p2, zA]
 | false =>
  simp only [Bool.false_eq_true, if_false]
  cases hc2 : sees toks s1 [61, 61] with
  | true =>
   obtain ⟨hn, hr⟩ := dU (aZ hc2).1 (aZ hc2).2
   obtain ⟨s2, x2, y2, p1, p2, p3, p4⟩ := hS (aX s1) hn.len (by omega)
   refine ⟨s2, ⟨6, 5, [], [x, x2]⟩, ⟨6, 5, [], [y, y2]⟩, ?_, ?_, fun hb => (Yq (p3 hb) (q3 (aZ hc2).1)), (q4.trans hn).trans p4⟩
   ·simp only [if_true, p1, zA]
   ·simp only [if_true, p2, zA]
  | false =>
   simp only [Bool.false_eq_true, if_false]
   exact ⟨s1, x, y, rfl, rfl, q3, q4⟩
theorem abL (fe fs r3 r4 r5) (a : aN) : uG fe fs r3 r4 r5 a =
 ((dK a).bind fun r1 =>
 (iC r1.2 [108, 101, 116]).bind fun r2 =>
 bif r2 then
  (jy (aN.mk r1.1.toks (w64 (r1.1.i + 1)) r1.1.bad)).bind fun r3 =>
  (bD r3.1 [61]).bind fun r4 =>
  (fe r4).bind fun r5 =>
  (gd ([aj r5.2].length)).bind fun _ =>
  (bD r5.1 [105, 110]).bind fun r6 =>
  (fe r6).bind fun r7 =>
  (gd ([aj r5.2].length + [aj r7.2].length)).bind fun _ =>
  some (r7.1, af.mk 7 0 r3.2 ([aj r5.2] ++ [aj r7.2]))
 else
 (dK r1.1).bind fun r8 =>
 (iC r8.2 [105, 102]).bind fun r9 =>
 bif r9 then
  (fe (aN.mk r8.1.toks (w64 (r8.1.i + 1)) r8.1.bad)).bind fun r10 =>
  (gd ([aj r10.2].length)).bind fun _ =>
  (bD r10.1 [116, 104, 101, 110]).bind fun r11 =>
  (fe r11).bind fun r12 =>
  (gd ([aj r10.2].length + [aj r12.2].length)).bind fun _ =>
  (bD r12.1 [101, 108, 115, 101]).bind fun r13 =>
  (fe r13).bind fun r14 =>
  (gd (([aj r10.2] ++ [aj r12.2]).length + [aj r14.2].length)).bind fun _ =>
  some (r14.1, af.mk 8 0 [] (([aj r10.2] ++ [aj r12.2]) ++ [aj r14.2]))
 else
 (dK r8.1).bind fun r15 =>
 (iC r15.2 [102, 111, 114]).bind fun r16 =>
 bif r16 then
  (jy (aN.mk r15.1.toks (w64 (r15.1.i + 1)) r15.1.bad)).bind fun r17 =>
  (bD r17.1 [105, 110]).bind fun r18 =>
  (fe r18).bind fun r19 =>
  (gd ([aj r19.2].length)).bind fun _ =>
  (bD r19.1 [100, 111]).bind fun r20 =>
  (fe r20).bind fun r21 =>
  (gd ([aj r19.2].length + [aj r21.2].length)).bind fun _ =>
  some (r21.1, af.mk 9 0 r17.2 ([aj r19.2] ++ [aj r21.2]))
 else
 (fs r15.1).bind fun r22 =>
 ah (JU fs) (r22.1.toks, r22.1.i, r22.1.bad, 0, 0, [], [], r22.2.kind, r22.2.n, r22.2.text, r22.2.args, [4, 5], ([4, 5].length : Int), 0)) := rfl
theorem IW (h : cu toks stop) (s : PS) : (jK toks s).2.length <= 120 := by
 unfold jK
 split
 ·exact (jv h s).len
 ·simp
theorem aae (h : cu toks stop) {k : Nat} {fe ge fs gc} (hE : ∀ s, s.i <= toks.length -> rem toks s + 1 <= k -> Sim wtE toks stop fe ge s)
  (hC : ∀ s, s.i <= toks.length -> rem toks s <= k -> Sim wtE toks stop (fun a => (fs a).bind fun r => ah (JU fs) (r.1.toks, r.1.i, r.1.bad, 0, 0, [], [], r.2.kind, r.2.n, r.2.text, r.2.args, [4, 5], ([4, 5].length : Int), 0)) gc s)
  (r3 r4 r5 t3 t4 t5 t6) (s : PS) (hs : s.i <= toks.length) (hk : rem toks s <= k) : Sim wtE toks stop (uG fe fs r3 r4 r5) (Dn ge gc t3 t4 t5 t6) s := by
 unfold Sim
 have g1 : ∀ x : af, gd [x].length = some () := fun x => gdp (by simp)
 have g2 : ∀ x y : af, gd ([x].length + [y].length) = some () := fun x y => gdp (by simp)
 have g3 : ∀ x y z : af, gd (([x] ++ [y]).length + [z].length) = some () := fun x y z => gdp (by simp)
 rw [abL]
 unfold Dn
 simp only [rY h, zA, Wp, Jf h s [108, 101, 116] rfl, Jf h s [105, 102] rfl, Jf h s [102, 111, 114] rfl, mJ h s, bF]
 cases hc : sees toks s [108, 101, 116] with
 | true =>
  obtain ⟨hn, hr⟩ := dU (aZ hc).1 (aZ hc).2
  have a1 := Ro (toks := toks) hn.len
  have a2 := mr (x := [61]) a1.len
  obtain ⟨s2, x2, y2, p1, p2, p3, p4⟩ := hE (dO toks (jK toks (aX s)).1 [61]) a2.len (by have := a1.rem; have := a2.rem; omega)
  have a3 := mr (x := [105, 110]) p4.len
  obtain ⟨s3, x3, y3, q1, q2, q3, q4⟩ := hE (dO toks s2 [105, 110]) a3.len (by have := a1.rem; have := a2.rem; have := p4.rem; have := a3.rem; omega)
  refine ⟨s3, ⟨7, 0, (jK toks (aX s)).2, [x2, x3]⟩, ⟨7, 0, (jK toks (aX s)).2, [y2, y3]⟩, ?_, ?_, fun hb => (by
   have b1 := q3 hb
   have b2 := p3 (xG (a3.trans q4) hb)
   refine ⟨by rw [b1.1, b2.1], ?_⟩
   have c1 := b1.2
   have c2 := b2.2
   have c3 := a1.le
   have c4 := a2.le
   have c5 := a3.le
   rw [iK] at c3
   rw [qN (IW h (aX s)), Ar]
   omega), ((((hn.trans a1).trans a2).trans p4).trans a3).trans q4⟩
  ·simp only [cond_true]
   rw [wZ h (aZ hc).2]
   simp only [RZ h, zA, rZ h, p1, g1, g2, q1]
   rfl
  ·simp only [cond_true]
   rw [jk h (aZ hc).2]
   simp only [Qy h, zA, oV h, p2, q2]
 | false =>
  simp only [cond_false]
  cases hc2 : sees toks s [105, 102] with
  | true =>
   obtain ⟨hn, hr⟩ := dU (aZ hc2).1 (aZ hc2).2
   obtain ⟨s2, x2, y2, p1, p2, p3, p4⟩ := hE (aX s) hn.len (by omega)
   have a3 := mr (x := [116, 104, 101, 110]) p4.len
   obtain ⟨s3, x3, y3, q1, q2, q3, q4⟩ := hE (dO toks s2 [116, 104, 101, 110]) a3.len (by have := p4.rem; have := a3.rem; omega)
   have a5 := mr (x := [101, 108, 115, 101]) q4.len
   obtain ⟨s4, x4, y4, u1, u2, u3, u4⟩ := hE (dO toks s3 [101, 108, 115, 101]) a5.len (by have := p4.rem; have := a3.rem; have := q4.rem; have := a5.rem; omega)
   refine ⟨s4, ⟨8, 0, [], [x2, x3, x4]⟩, ⟨8, 0, [], [y2, y3, y4]⟩, ?_, ?_, fun hb => (by
    have b0 := u3 hb
    have b1 := q3 (xG (a5.trans u4) hb)
    have b2 := p3 (xG ((a3.trans q4).trans (a5.trans u4)) hb)
    refine ⟨by rw [b0.1, b1.1, b2.1], ?_⟩
    have c0 := b0.2
    have c1 := b1.2
    have c2 := b2.2
    have c3 := a3.le
    have c5 := a5.le
    rw [iK] at c2
    rw [Au, WG]
    omega), ((((hn.trans p4).trans a3).trans q4).trans a5).trans u4⟩
   ·simp only [cond_true]
    rw [wZ h (aZ hc2).2]
    simp only [zA, rZ h, p1, g1, g2, g3, q1, u1]
    rfl
   ·simp only [cond_true]
    rw [jk h (aZ hc2).2]
    simp only [zA, oV h, p2, q2, u2]
  | false =>
   simp only [cond_false]
   cases hc3 : sees toks s [102, 111, 114] with
   | true =>
    obtain ⟨hn, hr⟩ := dU (aZ hc3).1 (aZ hc3).2
    have a1 := Ro (toks := toks) hn.len
    have a2 := mr (x := [105, 110]) a1.len
    obtain ⟨s2, x2, y2, p1, p2, p3, p4⟩ := hE (dO toks (jK toks (aX s)).1 [105, 110]) a2.len (by have := a1.rem; have := a2.rem; omega)
    have a3 := mr (x := [100, 111]) p4.len
    obtain ⟨s3, x3, y3, q1, q2, q3, q4⟩ := hE (dO toks s2 [100, 111]) a3.len (by have := a1.rem; have := a2.rem; have := p4.rem; have := a3.rem; omega)
    refine ⟨s3, ⟨9, 0, (jK toks (aX s)).2, [x2, x3]⟩, ⟨9, 0, (jK toks (aX s)).2, [y2, y3]⟩, ?_, ?_, fun hb => (by
   have b1 := q3 hb
   have b2 := p3 (xG (a3.trans q4) hb)
   refine ⟨by rw [b1.1, b2.1], ?_⟩
   have c1 := b1.2
   have c2 := b2.2
   have c3 := a1.le
   have c4 := a2.le
   have c5 := a3.le
   rw [iK] at c3
   rw [qN (IW h (aX s)), Ar]
   omega), ((((hn.trans a1).trans a2).trans p4).trans a3).trans q4⟩
    ·simp only [cond_true]
     rw [wZ h (aZ hc3).2]
     simp only [RZ h, zA, rZ h, p1, g1, g2, q1]
     rfl
    ·simp only [cond_true]
     rw [jk h (aZ hc3).2]
     simp only [Qy h, zA, oV h, p2, q2]
   | false =>
    simp only [cond_false]
    obtain ⟨s', x, y, p1, p2, p3, p4⟩ := hC s hs hk
    refine ⟨s', x, y, p1, ?_, p3, p4⟩
    rw [p2]; rfl
variable {toks : List aG} {stop : Int}
theorem UC (h : cu toks stop) : ∀ (k : Nat) (s : PS), s.i <= toks.length -> rem toks s <= k -> ∀ n m, 5 * k + 5 <= n -> 6 * k + 6 <= m -> Sim wtE toks stop (au n).1 (aA m).1 s := by
 intro k
 induction k using Nat.strongRecOn with
 | _ k ih =>
  have hE : ∀ n m, 5 * k <= n -> 6 * k <= m -> ∀ s, s.i <= toks.length -> rem toks s + 1 <= k -> Sim wtE toks stop (au n).1 (aA m).1 s := fun n m hn hm s hs hk =>
   ih (k - 1) (by omega) s hs (by omega) n m (by omega) (by omega)
  have hL : ∀ n m, 5 * k + 1 <= n -> 6 * k + 1 <= m -> ∀ b, letter b = false -> b ≠ [44] -> ∀ s, s.i <= toks.length -> rem toks s + 1 <= k -> Sim wtL toks stop (fun a => (au n).2.2.2.2 a b) (fun a => (aA m).2.2.2.2.2 a b) s := by
   intro n m hn hm b hb hbc s hs hk
   obtain ⟨n1, rfl⟩ : ∃ n1, n = n1 + 1 := ⟨n - 1, by omega⟩
   obtain ⟨m1, rfl⟩ : ∃ m1, m = m1 + 1 := ⟨m - 1, by omega⟩
   exact Zy h (k := k - 1) (fun s hs hk => hE n1 m1 (by omega) (by omega) s hs (by omega)) b hb hbc (au n1).2.1 (au n1).2.2.1 (au n1).2.2.2.1 (au n1).2.2.2.2 (aA m1).2.1 (aA m1).2.2.1 (aA m1).2.2.2.1 (aA m1).2.2.2.2.1 (aA m1).2.2.2.2.2 s hs (by omega)
  have hA : ∀ n m, 5 * k + 2 <= n -> 6 * k + 2 <= m -> ∀ s, s.i <= toks.length -> rem toks s <= k -> Sim wtE toks stop (au n).2.2.2.1 (aA m).2.2.2.2.1 s := by
   intro n m hn hm s hs hk
   obtain ⟨n1, rfl⟩ : ∃ n1, n = n1 + 1 := ⟨n - 1, by omega⟩
   obtain ⟨m1, rfl⟩ : ∃ m1, m = m1 + 1 := ⟨m - 1, by omega⟩
   exact aaz h (hE n1 m1 (by omega) (by omega)) (hL n1 m1 (by omega) (by omega)) (au n1).2.1 (au n1).2.2.1 (au n1).2.2.2.1 (aA m1).2.1 (aA m1).2.2.1 (aA m1).2.2.2.1 (aA m1).2.2.2.2.1 s hs hk
  have hP : ∀ n m, 5 * k + 3 <= n -> 6 * k + 3 <= m -> ∀ s, s.i <= toks.length -> rem toks s <= k -> Sim wtE toks stop (au n).2.2.1 (aA m).2.2.2.1 s := by
   intro n m hn hm s hs hk
   obtain ⟨n1, rfl⟩ : ∃ n1, n = n1 + 1 := ⟨n - 1, by omega⟩
   obtain ⟨m1, rfl⟩ : ∃ m1, m = m1 + 1 := ⟨m - 1, by omega⟩
   exact Y8 h (hA n1 m1 (by omega) (by omega)) (au n1).1 (au n1).2.1 (au n1).2.2.1 (au n1).2.2.2.2 (aA m1).1 (aA m1).2.1 (aA m1).2.2.1 (aA m1).2.2.2.1 (aA m1).2.2.2.2.2 s hs hk
  have hS : ∀ n m, 5 * k + 4 <= n -> 6 * k + 4 <= m -> ∀ s, s.i <= toks.length -> rem toks s <= k -> Sim wtE toks stop (au n).2.1 (aA m).2.2.1 s := by
   intro n m hn hm s hs hk
   obtain ⟨n1, rfl⟩ : ∃ n1, n = n1 + 1 := ⟨n - 1, by omega⟩
   obtain ⟨m1, rfl⟩ : ∃ m1, m = m1 + 1 := ⟨m - 1, by omega⟩
   exact aaO h (hP n1 m1 (by omega) (by omega)) (au n1).1 (au n1).2.1 (au n1).2.2.2.1 (au n1).2.2.2.2 (aA m1).1 (aA m1).2.1 (aA m1).2.2.1 (aA m1).2.2.2.2.1 (aA m1).2.2.2.2.2 s hs hk
  intro s hs hk n m hn hm
  obtain ⟨n1, rfl⟩ : ∃ n1, n = n1 + 1 := ⟨n - 1, by omega⟩
  obtain ⟨m1, rfl⟩ : ∃ m1, m = m1 + 1 := ⟨m - 1, by omega⟩
  refine aae h (hE n1 m1 (by omega) (by omega)) (fs := (au n1).2.1) (gc := (aA m1).2.1) (fun s hs hk => ?_) (au n1).2.2.1 (au n1).2.2.2.1 (au n1).2.2.2.2 (aA m1).2.2.1 (aA m1).2.2.2.1 (aA m1).2.2.2.2.1 (aA m1).2.2.2.2.2 s hs hk
  obtain ⟨m2, rfl⟩ : ∃ m2, m1 = m2 + 1 := ⟨m1 - 1, by omega⟩
  exact abW h (hS n1 m2 (by omega) (by omega)) (aA m2).1 (aA m2).2.1 (aA m2).2.2.2.1 (aA m2).2.2.2.2.1 (aA m2).2.2.2.2.2 s hs hk
variable {toks : List aG} {stop : Int}
theorem mD (n : Int) : 1 <= SizeOf.sizeOf n := by
 cases n with
 | ofNat m => rw [Int.ofNat.sizeOf_spec]; omega
 | negSucc m => rw [Int.negSucc.sizeOf_spec]; omega
theorem WX {α : Type} [SizeOf α] (xs : List α) : 1 <= SizeOf.sizeOf xs := by
 cases xs with
 | nil => rw [List.nil.sizeOf_spec]; omega
 | cons x r => rw [List.cons.sizeOf_spec]; omega
theorem aaP (t : aG) : 5 <= SizeOf.sizeOf t := by
 obtain ⟨a, b, c, d⟩ := t
 rw [aG.mk.sizeOf_spec]
 have := mD a; have := mD b; have := mD c; have := WX d
 omega
theorem YD (toks : List aG) : 6 * toks.length + 1 <= SizeOf.sizeOf toks := by
 induction toks with
 | nil => rw [List.nil.sizeOf_spec]; simp
 | cons t r ih =>
  rw [List.cons.sizeOf_spec]
  have := aaP t
  simp only [List.length_cons]
  omega
theorem OU (h : cu toks stop) : ∃ (s' : PS) (x y : af), wW (aN.mk toks 0 (-1)) = some (encI toks s', x) /\ Hq (GRd.mk toks 0 stop (-1)) = some (encS toks stop s', y) /\ (s'.bad = none -> x = y /\ wtE x <= s'.i) /\ s'.i <= toks.length := by
 have h1 := YD toks
 have hi : 5 * toks.length + 5 <= siz (aN.mk toks 0 (-1)) + 1 := by
  show _ <= SizeOf.sizeOf (aN.mk toks 0 (-1)) + 1
  rw [aN.mk.sizeOf_spec]
  have := mD 0; have := mD (-1)
  omega
 have hs : 6 * toks.length + 6 <= siz (GRd.mk toks 0 stop (-1)) + 1 := by
  show _ <= SizeOf.sizeOf (GRd.mk toks 0 stop (-1)) + 1
  rw [GRd.mk.sizeOf_spec]
  have := mD 0; have := mD (-1); have := mD stop
  omega
 obtain ⟨s', x, y, p1, p2, p3, p4⟩ := UC h toks.length ⟨0, none⟩ (Nat.zero_le _) (by simp [rem]) _ _ hi hs
 exact ⟨s', x, y, p1, p2, p3, p4.len⟩
theorem UE (a : Str) {toks : List aG} {t : Int} (hi : rV a = some (toks, t)) (hs : qU a = some (toks, t)) (hok : t < 0 -> cu toks (a.length : Int))
  (hv : ∀ e : af, wtE e <= 60 -> ∃ v, gX e = some v /\ iV e = some v) : ∃ (e : af) (p : Int), pG a = some (e, p) /\ oW a = some (e, p) /\ (p < 0 -> gX e = some true /\ wtE e <= 60) := by
 unfold pG oW
 rw [hi, hs]
 simp only [zA]
 by_cases ht : t >= 0
 ·have e : decide (t >= 0) = true := by simpa using ht
  rw [e]
  exact ⟨_, _, rfl, rfl, fun h => by omega⟩
 ·have e : decide (t >= 0) = false := by simpa using ht
  rw [e]
  simp only [cond_false]
  have h := hok (by omega)
  obtain ⟨s', x, y, p1, p2, p3, p4⟩ := OU h
  have hlen := h.len
  rw [p1, p2]
  simp only [zA, bF]
  rw [aay, aax h]
  cases hb : s'.bad with
  | some b =>
   have eb : (encI toks s').bad = (b : Int) := by simp [encI, hb]
   have es : (encS toks (a.length : Int) s').bad = wJ toks (a.length : Int) b := by simp [encS, hb]
   have h0 := jF h b
   have d1 : decide ((encS toks (a.length : Int) s').bad >= 0) = true := by rw [es]; simpa using h0
   have d2 : decide ((encI toks s').bad >= 0) = true := by rw [eb]; simp
   rw [d1, d2, eb, es]
   simp only [Option.isNone_some, cond_false, cond_true]
   by_cases hbl : b < toks.length
   ·have d3 : decide ((b : Int) >= (toks.length : Int)) = false := by simp; omega
    rw [d3]
    simp only [cond_false, aB, zF hbl, zA, Int.toNat_natCast]
    refine ⟨_, _, rfl, ?_, fun hh => ?_⟩
    ·simp [wJ, zF hbl]
    ·have := (h.all _ (List.getElem_mem hbl)).pos; omega
   ·have d3 : decide ((b : Int) >= (toks.length : Int)) = true := by simp; omega
    rw [d3]
    simp only [cond_true]
    have : toks[b]? = none := zJ (by omega)
    refine ⟨_, _, rfl, ?_, fun hh => by omega⟩
    simp [wJ, this]
  | none =>
   have ei : (encI toks s').i = (s'.i : Int) := rfl
   have esi : (encS toks (a.length : Int) s').i = (s'.i : Int) := rfl
   have eb : (encI toks s').bad = -1 := by simp [encI, hb]
   have es : (encS toks (a.length : Int) s').bad = -1 := by simp [encS, hb]
   simp only [Option.isNone_none, cond_true, ei, esi, o6 h, zA]
   obtain ⟨hxy, hwt⟩ := p3 hb
   have hwt : wtE x <= 60 := by omega
   subst hxy
   by_cases hl : s'.i < toks.length
   ·have d1 : decide ((s'.i : Int) < (toks.length : Int)) = true := by simp; omega
    have d2 : decide ((s'.i : Int) >= (toks.length : Int)) = false := by simp; omega
    have d3 : decide ((s'.i : Int) >= 0) = true := by simp
    have hf : (encS toks (a.length : Int) (fZ s')).bad = toks[s'.i].pos := by simp [encS, fZ, hb, wJ, zF hl]
    have h0 := (h.all _ (List.getElem_mem hl)).pos
    have d4 : decide ((encS toks (a.length : Int) (fZ s')).bad >= 0) = true := by rw [hf]; simpa using h0
    rw [d1, d2, d3, d4, hf]
    simp only [cond_true, cond_false, aB, zF hl, zA, Int.toNat_natCast]
    exact ⟨_, _, rfl, rfl, fun hh => by omega⟩
   ·have d1 : decide ((s'.i : Int) < (toks.length : Int)) = false := by simp; omega
    have d2 : decide ((-1 : Int) >= (toks.length : Int)) = false := by simp; omega
    have d3 : decide ((-1 : Int) >= 0) = false := rfl
    obtain ⟨v, hv1, hv2⟩ := hv x hwt
    rw [d1, eb, es, d2, d3]
    simp only [cond_false, hv1, hv2, zA]
    cases v with
    | false => exact ⟨_, _, rfl, rfl, fun hh => by omega⟩
    | true => exact ⟨_, _, rfl, rfl, fun _ => ⟨hv1, hwt⟩⟩
end
end Go.Proofs.YtgfjbogcidlaeaaGreatDoor
