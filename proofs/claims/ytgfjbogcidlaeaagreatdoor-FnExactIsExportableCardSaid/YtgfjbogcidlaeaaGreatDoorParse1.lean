import Derived.Test.YtgfjbogcidlaeaaGreatDoorNames2
/- The two parsers: their states, and the steps that read a token. The two parsers alike: products, sums, lists. The two parsers alike: atoms, expressions. The two parsers alike: with enough fuel they come to the same end. ParseExpr alike, out of the same tokens. -/
set_option linter.unusedSimpArgs false
set_option linter.unusedVariables false
namespace Go.Proofs.YtgfjbogcidlaeaaGreatDoor
noncomputable section
open Go.Abs Go.Proofs
structure PS where
 i : Nat
 bad : Option Nat
def offOf (toks : List GToken) (stop : Int) (b : Nat) : Int := match toks[b]? with
 | some t => t.pos
 | none => stop
def encI (toks : List GToken) (s : PS) : GPsr := ⟨toks, s.i, match s.bad with | none => -1 | some b => b⟩
def encS (toks : List GToken) (stop : Int) (s : PS) : GRd := ⟨toks, s.i, stop, match s.bad with | none => -1 | some b => offOf toks stop b⟩
def letter (s : Str) : Bool := match s with
 | c :: _ => decide (97 <= c.toNat /\ c.toNat <= 122)
 | [] => false
structure TokOk (t : GToken) : Prop where
 pos : 0 <= t.pos
 name : t.kind = 1 -> letter t.text = true
 sym : t.kind = 4 -> letter t.text = false
 len : t.text.length <= 120
structure ToksOk (toks : List GToken) (stop : Int) : Prop where
 all : ∀ t, t ∈ toks -> TokOk t
 stop : 0 <= stop
 len : toks.length <= 60
def sees (toks : List GToken) (s : PS) (x : Str) : Bool := match s.bad with
 | some _ => false
 | none => match toks[s.i]? with
  | some t => (t.kind == 4 || t.kind == 1) && t.text == x
  | none => false
def psFail (s : PS) : PS := match s.bad with
 | some _ => s
 | none => ⟨s.i, some s.i⟩
def psNext (s : PS) : PS := ⟨s.i + 1, s.bad⟩
def psTake (toks : List GToken) (s : PS) (x : Str) : PS := if sees toks s x = true then psNext s else psFail s
variable {toks : List GToken} {stop : Int}
theorem offOf_nonneg (h : ToksOk toks stop) (b : Nat) : 0 <= offOf toks stop b := by
 unfold offOf
 cases hb : toks[b]? with
 | none => exact h.stop
 | some t => exact (h.all t (List.mem_of_getElem? hb)).pos
theorem sees_lt {s : PS} {x : Str} (h : sees toks s x = true) : s.bad = none /\ s.i < toks.length := by
 unfold sees at h
 cases hb : s.bad with
 | some b => rw [hb] at h; cases h
 | none =>
  rw [hb] at h
  refine ⟨rfl, ?_⟩
  cases ht : toks[s.i]? with
  | none => rw [ht] at h; cases h
  | some t => exact (List.getElem?_eq_some_iff.1 ht).1
def nextT (toks : List GToken) (s : PS) : GToken := match s.bad with
 | some _ => ⟨0, 0, 0, []⟩
 | none => (toks[s.i]?).getD ⟨0, 0, 0, []⟩
theorem iNext_eq (h : ToksOk toks stop) (s : PS) : iParserNext (encI toks s) = some (encI toks s, nextT toks s) := by
 obtain ⟨i, bad⟩ := s
 unfold iParserNext nextT encI
 cases bad with
 | some b =>
  have e : decide ((b : Int) < 0) = false := by simp
  simp [e]
 | none =>
  simp only
  by_cases hi : i < toks.length
  ·simp [idx_nat, hi, List.getElem?_eq_getElem hi]
  ·have : toks[i]? = none := List.getElem?_eq_none (by omega)
   simp [hi, this]
theorem iSym_eq (t : GToken) (x : Str) : iIsSymbol t x = some (t.kind == 4 && t.text == x) := by
 unfold iIsSymbol
 by_cases h : t.kind == 4 <;> simp [h]
theorem iKey_eq (t : GToken) (x : Str) : iIsKeyword t x = some (t.kind == 1 && t.text == x) := by
 unfold iIsKeyword
 by_cases h : t.kind == 1 <;> simp [h]
theorem sSym_eq (t : GToken) (x : Str) : sIsSymbol t x = some (t.kind == 4 && t.text == x) := by
 unfold sIsSymbol
 by_cases h : t.kind == 4 <;> simp [h]
theorem sKey_eq (t : GToken) (x : Str) : sIsKeyword t x = some (t.kind == 1 && t.text == x) := by
 unfold sIsKeyword
 by_cases h : t.kind == 1 <;> simp [h]
theorem nextT_sees (s : PS) (x : Str) : ((nextT toks s).kind == 4 && (nextT toks s).text == x || (nextT toks s).kind == 1 && (nextT toks s).text == x) = sees toks s x := by
 unfold nextT sees
 cases s.bad with
 | some b => simp
 | none =>
  cases toks[s.i]? with
  | none => simp
  | some t => simp only [Option.getD_some]; cases (t.kind == 4) <;> cases (t.kind == 1) <;> simp
theorem nextT_ok (h : ToksOk toks stop) (s : PS) : TokOk (nextT toks s) := by
 have hz : TokOk ⟨0, 0, 0, []⟩ := ⟨by simp, by simp, by simp, by simp⟩
 unfold nextT
 cases s.bad with
 | some b => exact hz
 | none =>
  cases ht : toks[s.i]? with
  | none => exact hz
  | some t => exact h.all t (List.mem_of_getElem? ht)
theorem key_sees (h : ToksOk toks stop) (s : PS) (x : Str) (hx : letter x = true) : ((nextT toks s).kind == 1 && (nextT toks s).text == x) = sees toks s x := by
 rw [<- nextT_sees]
 have hok := nextT_ok h s
 cases hk : ((nextT toks s).kind == 4 && (nextT toks s).text == x) with
 | false => simp
 | true =>
  simp only [Bool.and_eq_true, beq_iff_eq] at hk
  have := hok.sym hk.1
  rw [hk.2, hx] at this
  cases this
theorem sym_sees (h : ToksOk toks stop) (s : PS) (x : Str) (hx : letter x = false) : ((nextT toks s).kind == 4 && (nextT toks s).text == x) = sees toks s x := by
 rw [<- nextT_sees]
 have hok := nextT_ok h s
 cases hk : ((nextT toks s).kind == 1 && (nextT toks s).text == x) with
 | false => simp
 | true =>
  simp only [Bool.and_eq_true, beq_iff_eq] at hk
  have := hok.name hk.1
  rw [hk.2, hx] at this
  cases this
theorem iFail_eq (s : PS) : iParserFail (encI toks s) = some (encI toks (psFail s), ⟨0, 0, [], []⟩) := by
 obtain ⟨i, bad⟩ := s
 unfold iParserFail psFail encI
 cases bad with
 | some b =>
  have e : decide ((b : Int) < 0) = false := by simp
  simp [e]
 | none => simp
theorem w64_succP {n : Nat} (h : n <= 60) : w64 ((n : Int) + 1) = ((n + 1 : Nat) : Int) := by rw [w64_id (by omega) (by omega)]; rfl
theorem iNextP {s : PS} (h : ToksOk toks stop) (hs : s.i < toks.length) : (GPsr.mk (encI toks s).toks (w64 ((encI toks s).i + 1)) (encI toks s).bad) = encI toks (psNext s) := by
 have := h.len
 have e : w64 ((encI toks s).i + 1) = ((s.i + 1 : Nat) : Int) := w64_succP (by omega)
 rw [e]; rfl
theorem sNextP {s : PS} (h : ToksOk toks stop) (hs : s.i < toks.length) : (GRd.mk (encS toks stop s).toks (w64 ((encS toks stop s).i + 1)) (encS toks stop s).stop (encS toks stop s).bad) = encS toks stop (psNext s) := by
 have := h.len
 have e : w64 ((encS toks stop s).i + 1) = ((s.i + 1 : Nat) : Int) := w64_succP (by omega)
 rw [e]; rfl
theorem iSymbol_eq (h : ToksOk toks stop) (s : PS) (x : Str) (hx : letter x = false) : iParserSymbol (encI toks s) x = some (encI toks (if sees toks s x = true then psNext s else s), sees toks s x) := by
 unfold iParserSymbol
 rw [iNext_eq h]
 simp only [Option.bind_some, iSym_eq, sym_sees h s x hx]
 cases hc : sees toks s x with
 | true => simp only [cond_true, if_true]; rw [iNextP h (sees_lt hc).2]
 | false => simp
theorem iNeed_eq (h : ToksOk toks stop) (s : PS) (x : Str) : iParserNeed (encI toks s) x = some (encI toks (psTake toks s x)) := by
 unfold iParserNeed psTake
 rw [iNext_eq h]
 simp only [Option.bind_some, iKey_eq, iNext_eq h, iSym_eq, iFail_eq]
 have hs := nextT_sees (toks := toks) s x
 cases hk : ((nextT toks s).kind == 1 && (nextT toks s).text == x) with
 | true =>
  rw [hk, Bool.or_true] at hs
  simp only [cond_true, <- hs, if_true]
  rw [iNextP h (sees_lt hs.symm).2]
 | false =>
  rw [hk, Bool.or_false] at hs
  simp only [cond_false, hs]
  cases hc : sees toks s x with
  | true => simp only [cond_true, if_true]; rw [iNextP h (sees_lt hc).2]
  | false => simp
theorem sSees_eq (h : ToksOk toks stop) (s : PS) (x : Str) : sL11Sees (encS toks stop s) x = some (encS toks stop s, sees toks s x) := by
 obtain ⟨i, bad⟩ := s
 unfold sL11Sees sees encS
 cases bad with
 | some b =>
  have := offOf_nonneg h b
  have e : decide (offOf toks stop b < 0) = false := by simp; omega
  simp [e]
 | none =>
  simp only
  by_cases hi : i < toks.length
  ·simp only [idx_nat, List.getElem?_eq_getElem hi, Option.bind_some, sSym_eq, sKey_eq]
   have e1 : decide ((-1 : Int) < 0) = true := rfl
   have e2 : decide ((i : Int) < (toks.length : Int)) = true := by simp; omega
   simp only [e1, e2, cond_true]
   cases (toks[i].kind == 4) <;> cases (toks[i].kind == 1) <;> cases (toks[i].text == x) <;> simp
  ·have : toks[i]? = none := List.getElem?_eq_none (by omega)
   simp [hi, this]
theorem sFail_eq (h : ToksOk toks stop) (s : PS) : sL11Fail (encS toks stop s) = some (encS toks stop (psFail s), ⟨0, 0, [], []⟩) := by
 obtain ⟨i, bad⟩ := s
 unfold sL11Fail psFail encS
 cases bad with
 | some b =>
  have := offOf_nonneg h b
  have e : decide (offOf toks stop b < 0) = false := by simp; omega
  simp [e]
 | none =>
  simp only
  by_cases hi : i < toks.length
  ·simp [idx_nat, hi, List.getElem?_eq_getElem hi, offOf]
  ·have : toks[i]? = none := List.getElem?_eq_none (by omega)
   simp [hi, this, offOf]
theorem sTake_eq (h : ToksOk toks stop) (s : PS) (x : Str) : sL11Take (encS toks stop s) x = some (encS toks stop (psTake toks s x)) := by
 unfold sL11Take psTake
 rw [sSees_eq h]
 simp only [Option.bind_some, sFail_eq h]
 cases hc : sees toks s x with
 | true => simp only [Bool.not_true, cond_false, if_true]; rw [sNextP h (sees_lt hc).2]
 | false => simp
def validB (a : Str) : Bool := (iIsValidName a).getD false
theorem iValid_eq (a : Str) (hl : a.length <= 120) : iIsValidName a = some (validB a) := by
 obtain ⟨v, h⟩ := validName_ok a (by omega)
 unfold validB
 rw [h]; rfl
theorem sValid_eq (a : Str) (hl : a.length <= 120) : sIsValidName a = some (validB a) := by
 rw [<- vName_alike a (by omega), iValid_eq a hl]
def isName (t : GToken) : Bool := t.kind == 1 && validB t.text
def psName (toks : List GToken) (s : PS) : PS × Str := if isName (nextT toks s) = true then (psNext s, (nextT toks s).text) else (psFail s, [])
theorem nextT_lt {s : PS} (h : ¬ (nextT toks s).kind = 0) : s.bad = none /\ s.i < toks.length /\ toks[s.i]? = some (nextT toks s) := by
 unfold nextT at h ⊢
 cases hb : s.bad with
 | some b => rw [hb] at h; exact absurd rfl h
 | none =>
  rw [hb] at h
  simp only at h ⊢
  cases ht : toks[s.i]? with
  | none => rw [ht] at h; exact absurd rfl h
  | some t => exact ⟨trivial, (List.getElem?_eq_some_iff.1 ht).1, rfl⟩
theorem isName_lt {s : PS} (h : isName (nextT toks s) = true) : s.bad = none /\ s.i < toks.length /\ toks[s.i]? = some (nextT toks s) := by
 refine nextT_lt fun h0 => ?_
 unfold isName at h
 rw [h0] at h
 cases h
theorem iName_eq (h : ToksOk toks stop) (s : PS) : iParserName (encI toks s) = some (encI toks (psName toks s).1, (psName toks s).2) := by
 unfold iParserName psName
 rw [iNext_eq h]
 have hok := nextT_ok h s
 simp only [Option.bind_some, iFail_eq, iValid_eq _ hok.len]
 cases hk : ((nextT toks s).kind == 1) with
 | false =>
  have e : ((nextT toks s).kind != 1) = true := by simp [bne, hk]
  have e2 : isName (nextT toks s) = false := by unfold isName; rw [hk]; rfl
  rw [e, e2]; simp
 | true =>
  have e : ((nextT toks s).kind != 1) = false := by simp [bne, hk]
  rw [e]
  cases hv : validB (nextT toks s).text with
  | false =>
   have e2 : isName (nextT toks s) = false := by unfold isName; rw [hk, hv]; rfl
   rw [e2]; simp
  | true =>
   have e2 : isName (nextT toks s) = true := by unfold isName; rw [hk, hv]; rfl
   rw [e2]
   simp only [cond_false, Bool.not_true, if_true]
   rw [iNextP h (isName_lt e2).2.1]
theorem sName_eq (h : ToksOk toks stop) (s : PS) : sL11Name (encS toks stop s) = some (encS toks stop (psName toks s).1, (psName toks s).2) := by
 unfold sL11Name psName
 simp only [sFail_eq h]
 obtain ⟨i, bad⟩ := s
 cases bad with
 | some b =>
  have := offOf_nonneg h b
  have e : decide ((encS toks stop ⟨i, some b⟩).bad >= 0) = true := by simp [encS]; omega
  have e2 : isName (nextT toks ⟨i, some b⟩) = false := rfl
  rw [e, e2]; simp
 | none =>
  have e : decide ((encS toks stop ⟨i, none⟩).bad >= 0) = false := by simp [encS]
  rw [e]
  by_cases hi : i < toks.length
  ·have e1 : decide ((encS toks stop ⟨i, none⟩).i >= ((encS toks stop ⟨i, none⟩).toks.length : Int)) = false := by simp [encS]; omega
   have ht : toks[i]? = some (nextT toks ⟨i, none⟩) := by simp [nextT, List.getElem?_eq_getElem hi]
   have hid : idx (encS toks stop ⟨i, none⟩).toks (encS toks stop ⟨i, none⟩).i = some (nextT toks ⟨i, none⟩) := by
    show idx toks (i : Int) = _
    rw [idx_nat, ht]
   have hlen := h.len
   have hid2 : idx (encS toks stop ⟨i, none⟩).toks (w64 (w64 ((encS toks stop ⟨i, none⟩).i + 1) - 1)) = some (nextT toks ⟨i, none⟩) := by
    have e3 : w64 (w64 ((encS toks stop ⟨i, none⟩).i + 1) - 1) = (i : Int) := by
     show w64 (w64 ((i : Int) + 1) - 1) = _
     rw [w64_succP (by omega), w64_id (by omega) (by omega)]
     omega
    rw [e3]
    show idx toks (i : Int) = _
    rw [idx_nat, ht]
   have hok := nextT_ok h ⟨i, none⟩
   rw [e1]
   simp only [cond_false, hid, hid2, Option.bind_some, sValid_eq _ hok.len]
   cases hk : ((nextT toks ⟨i, none⟩).kind == 1) with
   | false =>
    have e : ((nextT toks ⟨i, none⟩).kind != 1) = true := by simp [bne, hk]
    have e2 : isName (nextT toks ⟨i, none⟩) = false := by unfold isName; rw [hk]; rfl
    rw [e, e2]; simp
   | true =>
    have e : ((nextT toks ⟨i, none⟩).kind != 1) = false := by simp [bne, hk]
    rw [e]
    cases hv : validB (nextT toks ⟨i, none⟩).text with
    | false =>
     have e2 : isName (nextT toks ⟨i, none⟩) = false := by unfold isName; rw [hk, hv]; rfl
     rw [e2]; simp
    | true =>
     have e2 : isName (nextT toks ⟨i, none⟩) = true := by unfold isName; rw [hk, hv]; rfl
     rw [e2]
     simp only [cond_false, Bool.not_true, if_true]
     rw [sNextP (s := ⟨i, none⟩) h hi]
  ·have e1 : decide ((encS toks stop ⟨i, none⟩).i >= ((encS toks stop ⟨i, none⟩).toks.length : Int)) = true := by simp [encS]; omega
   have ht : toks[i]? = none := List.getElem?_eq_none (by omega)
   have e2 : isName (nextT toks ⟨i, none⟩) = false := by simp [nextT, ht, isName]
   rw [e1, e2]; simp
structure Adv (toks : List GToken) (s s' : PS) : Prop where
 le : s.i <= s'.i
 len : s'.i <= toks.length
 bad : ∀ b, s.bad = some b -> s' = s
theorem Adv.refl {s : PS} (h : s.i <= toks.length) : Adv toks s s := ⟨Nat.le_refl _, h, fun _ _ => rfl⟩
theorem Adv.trans {a b c : PS} (h : Adv toks a b) (k : Adv toks b c) : Adv toks a c := ⟨Nat.le_trans h.le k.le, k.len, fun x hx => by
 have e := h.bad x hx
 subst e
 exact k.bad x hx⟩
def rem (toks : List GToken) (s : PS) : Nat := match s.bad with
 | some _ => 0
 | none => toks.length - s.i
theorem Adv.rem {s s' : PS} (h : Adv toks s s') : rem toks s' <= rem toks s := by
 cases hb : s.bad with
 | some b => rw [h.bad b hb]; exact Nat.le_refl _
 | none =>
  have e : Go.Proofs.YtgfjbogcidlaeaaGreatDoor.rem toks s = toks.length - s.i := by unfold Go.Proofs.YtgfjbogcidlaeaaGreatDoor.rem; rw [hb]
  rw [e]
  have := h.le
  unfold Go.Proofs.YtgfjbogcidlaeaaGreatDoor.rem
  cases s'.bad with
  | some b => exact Nat.zero_le _
  | none => simp only; omega
theorem next_adv {s : PS} (hb : s.bad = none) (hi : s.i < toks.length) : Adv toks s (psNext s) /\ rem toks (psNext s) + 1 = rem toks s := by
 refine ⟨⟨by simp [psNext], hi, fun b h => by rw [hb] at h; cases h⟩, ?_⟩
 simp only [rem, psNext, hb]
 omega
theorem fail_adv {s : PS} (hi : s.i <= toks.length) : Adv toks s (psFail s) := by
 unfold psFail
 cases hb : s.bad with
 | some b => exact Adv.refl hi
 | none => exact ⟨Nat.le_refl _, hi, fun b h => by rw [hb] at h; cases h⟩
theorem fail_bad (s : PS) : ∃ b, (psFail s).bad = some b := by
 unfold psFail
 cases hb : s.bad with
 | some b => exact ⟨b, hb⟩
 | none => exact ⟨s.i, rfl⟩
theorem take_adv {s : PS} {x : Str} (hi : s.i <= toks.length) : Adv toks s (psTake toks s x) := by
 unfold psTake
 split
 ·rename_i h; exact (next_adv (sees_lt h).1 (sees_lt h).2).1
 ·exact fail_adv hi
theorem name_adv {s : PS} (hi : s.i <= toks.length) : Adv toks s (psName toks s).1 := by
 unfold psName
 split
 ·rename_i h; exact (next_adv (isName_lt h).1 (isName_lt h).2.1).1
 ·exact fail_adv hi
variable {toks : List GToken} {stop : Int}
mutual
def wtE : GExpr -> Nat
 | ⟨_, _, t, a⟩ => (if t.length <= 120 then 1 else 18446744073709551616) + wtL a
def wtL : List GExpr -> Nat
 | [] => 0
 | x :: r => wtE x + wtL r
end
theorem wtL_append (a b : List GExpr) : wtL (a ++ b) = wtL a + wtL b := by
 induction a with
 | nil => simp [wtL]
 | cons x r ih => simp only [List.cons_append, wtL, ih]; omega
theorem wtE_short {k n : Int} {t : Str} {a : List GExpr} (h : t.length <= 120) : wtE ⟨k, n, t, a⟩ = 1 + wtL a := by simp [wtE, h]
theorem wtE_nil {k n : Int} {a : List GExpr} : wtE ⟨k, n, [], a⟩ = 1 + wtL a := by simp [wtE]
theorem wtL_one (x : GExpr) : wtL [x] = wtE x := by simp [wtL]
theorem wtL_two (x y : GExpr) : wtL [x, y] = wtE x + wtE y := by simp [wtL]
theorem wtL_three (x y z : GExpr) : wtL [x, y, z] = wtE x + (wtE y + wtE z) := by simp [wtL]
def Sim {α : Type} (w : α -> Nat) (toks : List GToken) (stop : Int) (f : GPsr -> Option (GPsr × α)) (g : GRd -> Option (GRd × α)) (s : PS) : Prop :=
 ∃ (s' : PS) (x y : α), f (encI toks s) = some (encI toks s', x) /\ g (encS toks stop s) = some (encS toks stop s', y) /\ (s'.bad = none -> x = y /\ w x + s.i <= s'.i) /\ Adv toks s s'
theorem psNext_i (s : PS) : (psNext s).i = s.i + 1 := rfl
theorem sees_ne {s : PS} {x y : Str} (h : sees toks s x = true) (hne : x ≠ y) : sees toks s y = false := by
 unfold sees at h ⊢
 cases hb : s.bad with
 | some b => rfl
 | none =>
  rw [hb] at h
  simp only at h ⊢
  cases ht : toks[s.i]? with
  | none => rfl
  | some t =>
   rw [ht] at h
   simp only [Bool.and_eq_true, beq_iff_eq] at h ⊢
   have : ¬ t.text = y := by rw [h.2]; exact hne
   simp [this]
abbrev IX := (List GToken) × Int × Int × Int × Int × Str × (List GExpr) × Int × Int × Str × (List GExpr)
abbrev SX := (List GToken) × Int × Int × Int × Int × Int × Str × (List GExpr) × Int × Int × Str × (List GExpr)
def pkI (toks : List GToken) (s : PS) (e : GExpr) : IX := ((encI toks s).toks, (encI toks s).i, (encI toks s).bad, 0, 0, [], [], e.kind, e.n, e.text, e.args)
def pkS (toks : List GToken) (stop : Int) (s : PS) (e : GExpr) : SX := ((encS toks stop s).toks, (encS toks stop s).i, (encS toks stop s).stop, (encS toks stop s).bad, 0, 0, [], [], e.kind, e.n, e.text, e.args)
def prodI (fa : GPsr -> Option (GPsr × GExpr)) : IX -> Option (IX ⊕ (GPsr × GExpr)) := (fun (x2 : (List GToken) × Int × Int × Int × Int × Str × (List GExpr) × Int × Int × Str × (List GExpr)) =>
  (iParserSymbol (GPsr.mk x2.1 x2.2.1 x2.2.2.1) [42]).bind fun r3 =>
  bif r3.2 then
   (fa r3.1).bind fun r4 =>
   some (.inl (r4.1.toks, r4.1.i, r4.1.bad, x2.2.2.2.1, x2.2.2.2.2.1, x2.2.2.2.2.2.1, x2.2.2.2.2.2.2.1, 6, 3, [], [GExpr.mk x2.2.2.2.2.2.2.2.1 x2.2.2.2.2.2.2.2.2.1 x2.2.2.2.2.2.2.2.2.2.1 x2.2.2.2.2.2.2.2.2.2.2, reExpr r4.2]))
  else
   some (.inr (r3.1, GExpr.mk x2.2.2.2.2.2.2.2.1 x2.2.2.2.2.2.2.2.2.1 x2.2.2.2.2.2.2.2.2.2.1 x2.2.2.2.2.2.2.2.2.2.2))
 )
def prodS (ga : GRd -> Option (GRd × GExpr)) : SX -> Option (SX ⊕ (GRd × GExpr)) := (fun (x2 : (List GToken) × Int × Int × Int × Int × Int × Str × (List GExpr) × Int × Int × Str × (List GExpr)) =>
  (sL11Sees (GRd.mk x2.1 x2.2.1 x2.2.2.1 x2.2.2.2.1) [42]).bind fun r3 =>
  bif r3.2 then
   (ga (GRd.mk r3.1.toks (w64 (r3.1.i + 1)) r3.1.stop r3.1.bad)).bind fun r4 =>
   (sL10Op 3 (GExpr.mk x2.2.2.2.2.2.2.2.2.1 x2.2.2.2.2.2.2.2.2.2.1 x2.2.2.2.2.2.2.2.2.2.2.1 x2.2.2.2.2.2.2.2.2.2.2.2) (reExpr r4.2)).bind fun r5 =>
   some (.inl (r4.1.toks, r4.1.i, r4.1.stop, r4.1.bad, x2.2.2.2.2.1, x2.2.2.2.2.2.1, x2.2.2.2.2.2.2.1, x2.2.2.2.2.2.2.2.1, r5.kind, r5.n, r5.text, r5.args))
  else
   some (.inr (r3.1, GExpr.mk x2.2.2.2.2.2.2.2.2.1 x2.2.2.2.2.2.2.2.2.2.1 x2.2.2.2.2.2.2.2.2.2.2.1 x2.2.2.2.2.2.2.2.2.2.2.2))
 )
def sumI (fa : GPsr -> Option (GPsr × GExpr)) : IX -> Option (IX ⊕ (GPsr × GExpr)) := (fun (x2 : (List GToken) × Int × Int × Int × Int × Str × (List GExpr) × Int × Int × Str × (List GExpr)) =>
  bif (decide (x2.2.2.1 < 0)) then
   (iParserSymbol (GPsr.mk x2.1 x2.2.1 x2.2.2.1) [43]).bind fun r3 =>
   bif (!r3.2) then
    (iParserSymbol r3.1 [45]).bind fun r4 =>
    bif (!r4.2) then
     some (.inr (r4.1, GExpr.mk x2.2.2.2.2.2.2.2.1 x2.2.2.2.2.2.2.2.2.1 x2.2.2.2.2.2.2.2.2.2.1 x2.2.2.2.2.2.2.2.2.2.2))
    else
     (fa r4.1).bind fun r5 =>
     some (.inl (r5.1.toks, r5.1.i, r5.1.bad, x2.2.2.2.1, x2.2.2.2.2.1, x2.2.2.2.2.2.1, x2.2.2.2.2.2.2.1, 6, 2, [], [GExpr.mk x2.2.2.2.2.2.2.2.1 x2.2.2.2.2.2.2.2.2.1 x2.2.2.2.2.2.2.2.2.2.1 x2.2.2.2.2.2.2.2.2.2.2, reExpr r5.2]))
   else
    (fa r3.1).bind fun r6 =>
    some (.inl (r6.1.toks, r6.1.i, r6.1.bad, x2.2.2.2.1, x2.2.2.2.2.1, x2.2.2.2.2.2.1, x2.2.2.2.2.2.2.1, 6, 1, [], [GExpr.mk x2.2.2.2.2.2.2.2.1 x2.2.2.2.2.2.2.2.2.1 x2.2.2.2.2.2.2.2.2.2.1 x2.2.2.2.2.2.2.2.2.2.2, reExpr r6.2]))
  else
   some (.inr (GPsr.mk x2.1 x2.2.1 x2.2.2.1, GExpr.mk x2.2.2.2.2.2.2.2.1 x2.2.2.2.2.2.2.2.2.1 x2.2.2.2.2.2.2.2.2.2.1 x2.2.2.2.2.2.2.2.2.2.2))
 )
def sumS (ga : GRd -> Option (GRd × GExpr)) : SX -> Option (SX ⊕ (GRd × GExpr)) := (fun (x2 : (List GToken) × Int × Int × Int × Int × Int × Str × (List GExpr) × Int × Int × Str × (List GExpr)) =>
  (sL11Sees (GRd.mk x2.1 x2.2.1 x2.2.2.1 x2.2.2.2.1) [43]).bind fun r3 =>
  bif r3.2 then
   (sL11Sees r3.1 [45]).bind fun r4 =>
   bif r4.2 then
    (ga (GRd.mk r4.1.toks (w64 (r4.1.i + 1)) r4.1.stop r4.1.bad)).bind fun r5 =>
    (sL10Op 2 (GExpr.mk x2.2.2.2.2.2.2.2.2.1 x2.2.2.2.2.2.2.2.2.2.1 x2.2.2.2.2.2.2.2.2.2.2.1 x2.2.2.2.2.2.2.2.2.2.2.2) (reExpr r5.2)).bind fun r6 =>
    some (.inl (r5.1.toks, r5.1.i, r5.1.stop, r5.1.bad, x2.2.2.2.2.1, x2.2.2.2.2.2.1, x2.2.2.2.2.2.2.1, x2.2.2.2.2.2.2.2.1, r6.kind, r6.n, r6.text, r6.args))
   else
    (ga (GRd.mk r4.1.toks (w64 (r4.1.i + 1)) r4.1.stop r4.1.bad)).bind fun r7 =>
    (sL10Op 1 (GExpr.mk x2.2.2.2.2.2.2.2.2.1 x2.2.2.2.2.2.2.2.2.2.1 x2.2.2.2.2.2.2.2.2.2.2.1 x2.2.2.2.2.2.2.2.2.2.2.2) (reExpr r7.2)).bind fun r8 =>
    some (.inl (r7.1.toks, r7.1.i, r7.1.stop, r7.1.bad, x2.2.2.2.2.1, x2.2.2.2.2.2.1, x2.2.2.2.2.2.2.1, x2.2.2.2.2.2.2.2.1, r8.kind, r8.n, r8.text, r8.args))
  else
  (sL11Sees r3.1 [45]).bind fun r9 =>
  bif r9.2 then
   (sL11Sees r9.1 [45]).bind fun r10 =>
   bif r10.2 then
    (ga (GRd.mk r10.1.toks (w64 (r10.1.i + 1)) r10.1.stop r10.1.bad)).bind fun r11 =>
    (sL10Op 2 (GExpr.mk x2.2.2.2.2.2.2.2.2.1 x2.2.2.2.2.2.2.2.2.2.1 x2.2.2.2.2.2.2.2.2.2.2.1 x2.2.2.2.2.2.2.2.2.2.2.2) (reExpr r11.2)).bind fun r12 =>
    some (.inl (r11.1.toks, r11.1.i, r11.1.stop, r11.1.bad, x2.2.2.2.2.1, x2.2.2.2.2.2.1, x2.2.2.2.2.2.2.1, x2.2.2.2.2.2.2.2.1, r12.kind, r12.n, r12.text, r12.args))
   else
    (ga (GRd.mk r10.1.toks (w64 (r10.1.i + 1)) r10.1.stop r10.1.bad)).bind fun r13 =>
    (sL10Op 1 (GExpr.mk x2.2.2.2.2.2.2.2.2.1 x2.2.2.2.2.2.2.2.2.2.1 x2.2.2.2.2.2.2.2.2.2.2.1 x2.2.2.2.2.2.2.2.2.2.2.2) (reExpr r13.2)).bind fun r14 =>
    some (.inl (r13.1.toks, r13.1.i, r13.1.stop, r13.1.bad, x2.2.2.2.2.1, x2.2.2.2.2.2.1, x2.2.2.2.2.2.2.1, x2.2.2.2.2.2.2.2.1, r14.kind, r14.n, r14.text, r14.args))
  else
   some (.inr (r9.1, GExpr.mk x2.2.2.2.2.2.2.2.2.1 x2.2.2.2.2.2.2.2.2.2.1 x2.2.2.2.2.2.2.2.2.2.2.1 x2.2.2.2.2.2.2.2.2.2.2.2))
 )
theorem prodB_I (r1 r2 r3 fa r5) (a : GPsr) : iParserProductB r1 r2 r3 fa r5 a = (fa a).bind fun r => loopD (prodI fa) (r.1.toks, r.1.i, r.1.bad, 0, 0, [], [], r.2.kind, r.2.n, r.2.text, r.2.args) := rfl
theorem prodB_S (r1 r2 r3 r4 ga r6) (a : GRd) : sL11ProductB r1 r2 r3 r4 ga r6 a = (ga a).bind fun r => loopD (prodS ga) (r.1.toks, r.1.i, r.1.stop, r.1.bad, 0, 0, [], [], r.2.kind, r.2.n, r.2.text, r.2.args) := rfl
theorem sumB_I (r1 r2 fa r4 r5) (a : GPsr) : iParserSumB r1 r2 fa r4 r5 a = (fa a).bind fun r => loopD (sumI fa) (r.1.toks, r.1.i, r.1.bad, 0, 0, [], [], r.2.kind, r.2.n, r.2.text, r.2.args) := rfl
theorem sumB_S (r1 r2 r3 ga r5 r6) (a : GRd) : sL11SumB r1 r2 r3 ga r5 r6 a = (ga a).bind fun r => loopD (sumS ga) (r.1.toks, r.1.i, r.1.stop, r.1.bad, 0, 0, [], [], r.2.kind, r.2.n, r.2.text, r.2.args) := rfl
theorem prodI_step (h : ToksOk toks stop) (fa) (s : PS) (e : GExpr) : prodI fa (pkI toks s e) = if sees toks s [42] = true then (fa (encI toks (psNext s))).bind fun r => some (.inl (r.1.toks, r.1.i, r.1.bad, 0, 0, [], [], 6, 3, [], [e, r.2])) else some (.inr (encI toks s, e)) := by
 obtain ⟨ek, en, et, ea⟩ := e
 have e0 : (GPsr.mk (pkI toks s ⟨ek, en, et, ea⟩).1 (pkI toks s ⟨ek, en, et, ea⟩).2.1 (pkI toks s ⟨ek, en, et, ea⟩).2.2.1) = encI toks s := rfl
 unfold prodI
 simp only [e0, iSymbol_eq h s [42] rfl, Option.bind_some]
 cases sees toks s [42] with
 | true => simp only [cond_true, if_true, reExpr_eq]; rfl
 | false => simp only [cond_false, Bool.false_eq_true, if_false]; rfl
theorem prodS_step (h : ToksOk toks stop) (ga) (s : PS) (e : GExpr) : prodS ga (pkS toks stop s e) = if sees toks s [42] = true then (ga (encS toks stop (psNext s))).bind fun r => some (.inl (r.1.toks, r.1.i, r.1.stop, r.1.bad, 0, 0, [], [], 6, 3, [], [e, r.2])) else some (.inr (encS toks stop s, e)) := by
 obtain ⟨ek, en, et, ea⟩ := e
 have e0 : (GRd.mk (pkS toks stop s ⟨ek, en, et, ea⟩).1 (pkS toks stop s ⟨ek, en, et, ea⟩).2.1 (pkS toks stop s ⟨ek, en, et, ea⟩).2.2.1 (pkS toks stop s ⟨ek, en, et, ea⟩).2.2.2.1) = encS toks stop s := rfl
 unfold prodS
 simp only [e0, sSees_eq h s [42], Option.bind_some]
 cases hc : sees toks s [42] with
 | true =>
  simp only [cond_true, if_true]
  rw [sNextP h (sees_lt hc).2]
  simp only [sL10Op, Option.bind_some, reExpr_eq]
  rfl
 | false => simp only [cond_false, Bool.false_eq_true, if_false]; rfl
theorem prod_loop (h : ToksOk toks stop) {k i0 : Nat} {fa ga} (hA : ∀ s, s.i <= toks.length -> rem toks s <= k -> Sim wtE toks stop fa ga s) : ∀ (r : Nat) (s : PS) (e1 e2 : GExpr), s.i <= toks.length -> rem toks s <= r -> r <= k -> (s.bad = none -> e1 = e2 /\ wtE e1 + i0 <= s.i) ->
  ∃ (s' : PS) (x y : GExpr), loopD (prodI fa) (pkI toks s e1) = some (encI toks s', x) /\ loopD (prodS ga) (pkS toks stop s e2) = some (encS toks stop s', y) /\ (s'.bad = none -> x = y /\ wtE x + i0 <= s'.i) /\ Adv toks s s' := by
 intro r
 induction r with
 | zero =>
  intro s e1 e2 hs hr hk he
  have hc : sees toks s [42] = false := by
   cases hc : sees toks s [42] with
   | false => rfl
   | true => have := (next_adv (sees_lt hc).1 (sees_lt hc).2).2; omega
  refine ⟨s, e1, e2, ?_, ?_, he, Adv.refl hs⟩
  ·rw [loopD_eq, prodI_step h, hc]; rfl
  ·rw [loopD_eq, prodS_step h, hc]; rfl
 | succ r ih =>
  intro s e1 e2 hs hr hk he
  cases hc : sees toks s [42] with
  | false =>
   refine ⟨s, e1, e2, ?_, ?_, he, Adv.refl hs⟩
   ·rw [loopD_eq, prodI_step h, hc]; rfl
   ·rw [loopD_eq, prodS_step h, hc]; rfl
  | true =>
   obtain ⟨hn, hrem⟩ := next_adv (sees_lt hc).1 (sees_lt hc).2
   obtain ⟨s1, x, y, q1, q2, q3, q4⟩ := hA (psNext s) hn.len (by omega)
   have hr1 := q4.rem
   obtain ⟨s', x', y', p1, p2, p3, p4⟩ := ih s1 ⟨6, 3, [], [e1, x]⟩ ⟨6, 3, [], [e2, y]⟩ q4.len (by omega) (by omega) (fun hb => by
    have a1 := q3 hb
    have a2 := he (sees_lt hc).1
    refine ⟨by rw [a1.1, a2.1], ?_⟩
    have a3 := a1.2
    rw [psNext_i] at a3
    rw [wtE_nil, wtL_two]
    omega)
   refine ⟨s', x', y', ?_, ?_, p3, (hn.trans q4).trans p4⟩
   ·rw [loopD_eq, prodI_step h, hc]
    simp only [if_true, q1, Option.bind_some]
    exact p1
   ·rw [loopD_eq, prodS_step h, hc]
    simp only [if_true, q2, Option.bind_some]
    exact p2
theorem prod_sim (h : ToksOk toks stop) {k : Nat} {fa ga} (hA : ∀ s, s.i <= toks.length -> rem toks s <= k -> Sim wtE toks stop fa ga s) (r1 r2 r3 r5 t1 t2 t3 t4 t6) (s : PS) (hs : s.i <= toks.length) (hk : rem toks s <= k) :
  Sim wtE toks stop (iParserProductB r1 r2 r3 fa r5) (sL11ProductB t1 t2 t3 t4 ga t6) s := by
 obtain ⟨s1, x, y, q1, q2, q3, q4⟩ := hA s hs hk
 have hr1 := q4.rem
 obtain ⟨s', x', y', p1, p2, p3, p4⟩ := prod_loop h hA (rem toks s1) s1 x y q4.len (Nat.le_refl _) (by omega) q3
 refine ⟨s', x', y', ?_, ?_, p3, q4.trans p4⟩
 ·rw [prodB_I, q1]; exact p1
 ·rw [prodB_S, q2]; exact p2
def nextI {toks : List GToken} (fa : GPsr -> Option (GPsr × GExpr)) (s : PS) (e : GExpr) (op : Int) : Option (IX ⊕ (GPsr × GExpr)) := (fa (encI toks (psNext s))).bind fun r => some (.inl (r.1.toks, r.1.i, r.1.bad, 0, 0, [], [], 6, op, [], [e, r.2]))
def nextS {toks : List GToken} {stop : Int} (ga : GRd -> Option (GRd × GExpr)) (s : PS) (e : GExpr) (op : Int) : Option (SX ⊕ (GRd × GExpr)) := (ga (encS toks stop (psNext s))).bind fun r => some (.inl (r.1.toks, r.1.i, r.1.stop, r.1.bad, 0, 0, [], [], 6, op, [], [e, r.2]))
theorem sumI_step (h : ToksOk toks stop) (fa) (s : PS) (e : GExpr) : sumI fa (pkI toks s e) = if sees toks s [43] = true then nextI (toks := toks) fa s e 1 else if sees toks s [45] = true then nextI (toks := toks) fa s e 2 else some (.inr (encI toks s, e)) := by
 obtain ⟨ek, en, et, ea⟩ := e
 have e0 : (GPsr.mk (pkI toks s ⟨ek, en, et, ea⟩).1 (pkI toks s ⟨ek, en, et, ea⟩).2.1 (pkI toks s ⟨ek, en, et, ea⟩).2.2.1) = encI toks s := rfl
 unfold sumI
 simp only [e0]
 cases hb : s.bad with
 | some b =>
  have d0 : decide ((pkI toks s ⟨ek, en, et, ea⟩).2.2.1 < 0) = false := by
   show decide ((encI toks s).bad < 0) = false
   simp [encI, hb]
  have c1 : ∀ x, sees toks s x = false := fun x => by unfold sees; rw [hb]
  rw [d0, c1, c1]; rfl
 | none =>
  have d0 : decide ((pkI toks s ⟨ek, en, et, ea⟩).2.2.1 < 0) = true := by
   show decide ((encI toks s).bad < 0) = true
   simp [encI, hb]
  rw [d0]
  simp only [cond_true, iSymbol_eq h s [43] rfl, Option.bind_some]
  cases hc : sees toks s [43] with
  | true => simp only [Bool.not_true, cond_false, if_true, reExpr_eq]; rfl
  | false =>
   simp only [Bool.not_false, cond_true, Bool.false_eq_true, if_false, iSymbol_eq h s [45] rfl, Option.bind_some]
   cases hc2 : sees toks s [45] with
   | true => simp only [Bool.not_true, cond_false, if_true, reExpr_eq]; rfl
   | false => simp only [Bool.not_false, cond_true, Bool.false_eq_true, if_false]; rfl
theorem sumS_step (h : ToksOk toks stop) (ga) (s : PS) (e : GExpr) : sumS ga (pkS toks stop s e) = if sees toks s [43] = true then nextS (toks := toks) (stop := stop) ga s e 1 else if sees toks s [45] = true then nextS (toks := toks) (stop := stop) ga s e 2 else some (.inr (encS toks stop s, e)) := by
 obtain ⟨ek, en, et, ea⟩ := e
 have e0 : (GRd.mk (pkS toks stop s ⟨ek, en, et, ea⟩).1 (pkS toks stop s ⟨ek, en, et, ea⟩).2.1 (pkS toks stop s ⟨ek, en, et, ea⟩).2.2.1 (pkS toks stop s ⟨ek, en, et, ea⟩).2.2.2.1) = encS toks stop s := rfl
 unfold sumS
 simp only [e0, sSees_eq h s, Option.bind_some]
 cases hc : sees toks s [43] with
 | true =>
  have hc2 := sees_ne hc (show ([43] : Str) ≠ [45] by decide)
  simp only [cond_true, if_true, hc2, cond_false]
  rw [sNextP h (sees_lt hc).2]
  simp only [sL10Op, Option.bind_some, reExpr_eq]
  rfl
 | false =>
  simp only [cond_false, Bool.false_eq_true, if_false]
  cases hc2 : sees toks s [45] with
  | true =>
   simp only [cond_true, if_true]
   rw [sNextP h (sees_lt hc2).2]
   simp only [sL10Op, Option.bind_some, reExpr_eq]
   rfl
  | false => simp only [cond_false, Bool.false_eq_true, if_false]; rfl
theorem sum_loop (h : ToksOk toks stop) {k i0 : Nat} {fa ga} (hA : ∀ s, s.i <= toks.length -> rem toks s <= k -> Sim wtE toks stop fa ga s) : ∀ (r : Nat) (s : PS) (e1 e2 : GExpr), s.i <= toks.length -> rem toks s <= r -> r <= k -> (s.bad = none -> e1 = e2 /\ wtE e1 + i0 <= s.i) ->
  ∃ (s' : PS) (x y : GExpr), loopD (sumI fa) (pkI toks s e1) = some (encI toks s', x) /\ loopD (sumS ga) (pkS toks stop s e2) = some (encS toks stop s', y) /\ (s'.bad = none -> x = y /\ wtE x + i0 <= s'.i) /\ Adv toks s s' := by
 intro r
 induction r with
 | zero =>
  intro s e1 e2 hs hr hk he
  have hc : ∀ x, sees toks s x = false := by
   intro x
   cases hc : sees toks s x with
   | false => rfl
   | true => have := (next_adv (sees_lt hc).1 (sees_lt hc).2).2; omega
  refine ⟨s, e1, e2, ?_, ?_, he, Adv.refl hs⟩
  ·rw [loopD_eq, sumI_step h, hc, hc]; rfl
  ·rw [loopD_eq, sumS_step h, hc, hc]; rfl
 | succ r ih =>
  intro s e1 e2 hs hr hk he
  have go : ∀ (x : Str) (op : Int), sees toks s x = true -> sumI fa (pkI toks s e1) = nextI (toks := toks) fa s e1 op -> sumS ga (pkS toks stop s e2) = nextS (toks := toks) (stop := stop) ga s e2 op ->
    ∃ (s' : PS) (x y : GExpr), loopD (sumI fa) (pkI toks s e1) = some (encI toks s', x) /\ loopD (sumS ga) (pkS toks stop s e2) = some (encS toks stop s', y) /\ (s'.bad = none -> x = y /\ wtE x + i0 <= s'.i) /\ Adv toks s s' := by
   intro x0 op hc hI hS
   obtain ⟨hn, hrem⟩ := next_adv (sees_lt hc).1 (sees_lt hc).2
   obtain ⟨s1, x, y, q1, q2, q3, q4⟩ := hA (psNext s) hn.len (by omega)
   have hr1 := q4.rem
   obtain ⟨s', x', y', p1, p2, p3, p4⟩ := ih s1 ⟨6, op, [], [e1, x]⟩ ⟨6, op, [], [e2, y]⟩ q4.len (by omega) (by omega) (fun hb => by
    have a1 := q3 hb
    have a2 := he (sees_lt hc).1
    refine ⟨by rw [a1.1, a2.1], ?_⟩
    have a3 := a1.2
    rw [psNext_i] at a3
    rw [wtE_nil, wtL_two]
    omega)
   refine ⟨s', x', y', ?_, ?_, p3, (hn.trans q4).trans p4⟩
   ·rw [loopD_eq, hI]
    simp only [nextI, q1, Option.bind_some]
    exact p1
   ·rw [loopD_eq, hS]
    simp only [nextS, q2, Option.bind_some]
    exact p2
  cases hc : sees toks s [43] with
  | true => exact go [43] 1 hc (by rw [sumI_step h, hc, if_pos rfl]) (by rw [sumS_step h, hc, if_pos rfl])
  | false =>
   cases hc2 : sees toks s [45] with
   | true => exact go [45] 2 hc2 (by rw [sumI_step h, hc, hc2, if_neg Bool.false_ne_true, if_pos rfl]) (by rw [sumS_step h, hc, hc2, if_neg Bool.false_ne_true, if_pos rfl])
   | false =>
    refine ⟨s, e1, e2, ?_, ?_, he, Adv.refl hs⟩
    ·rw [loopD_eq, sumI_step h, hc, hc2]; rfl
    ·rw [loopD_eq, sumS_step h, hc, hc2]; rfl
theorem sum_sim (h : ToksOk toks stop) {k : Nat} {fa ga} (hA : ∀ s, s.i <= toks.length -> rem toks s <= k -> Sim wtE toks stop fa ga s) (r1 r2 r4 r5 t1 t2 t3 t5 t6) (s : PS) (hs : s.i <= toks.length) (hk : rem toks s <= k) :
  Sim wtE toks stop (iParserSumB r1 r2 fa r4 r5) (sL11SumB t1 t2 t3 ga t5 t6) s := by
 obtain ⟨s1, x, y, q1, q2, q3, q4⟩ := hA s hs hk
 have hr1 := q4.rem
 obtain ⟨s', x', y', p1, p2, p3, p4⟩ := sum_loop h hA (rem toks s1) s1 x y q4.len (Nat.le_refl _) (by omega) q3
 refine ⟨s', x', y', ?_, ?_, p3, q4.trans p4⟩
 ·rw [sumB_I, q1]; exact p1
 ·rw [sumB_S, q2]; exact p2
abbrev IL := (List GToken) × Int × Int × Str × (List GExpr)
abbrev SL := (List GToken) × Int × Int × Int × Str × (List GExpr)
def plI (toks : List GToken) (s : PS) (b : Str) (o : List GExpr) : IL := ((encI toks s).toks, (encI toks s).i, (encI toks s).bad, b, o)
def plS (toks : List GToken) (stop : Int) (s : PS) (b : Str) (o : List GExpr) : SL := ((encS toks stop s).toks, (encS toks stop s).i, (encS toks stop s).stop, (encS toks stop s).bad, b, o)
def listI (fa : GPsr -> Option (GPsr × GExpr)) : IL -> Option (IL ⊕ (GPsr × List GExpr)) := (fun (x2 : (List GToken) × Int × Int × Str × (List GExpr)) =>
  bif (decide (x2.2.2.1 < 0)) then
   (fa (GPsr.mk x2.1 x2.2.1 x2.2.2.1)).bind fun r3 =>
   (gd (x2.2.2.2.2.length + [reExpr r3.2].length)).bind fun _ =>
   (iParserSymbol r3.1 x2.2.2.2.1).bind fun r4 =>
   bif r4.2 then
    some (.inr (r4.1, x2.2.2.2.2 ++ [reExpr r3.2]))
   else
    (iParserNeed r4.1 [44]).bind fun r5 =>
    some (.inl (r5.toks, r5.i, r5.bad, x2.2.2.2.1, x2.2.2.2.2 ++ [reExpr r3.2]))
  else
   some (.inr (GPsr.mk x2.1 x2.2.1 x2.2.2.1, x2.2.2.2.2))
 )
def listS (ga : GRd -> Option (GRd × GExpr)) : SL -> Option (SL ⊕ (GRd × List GExpr)) := (fun (x2 : (List GToken) × Int × Int × Int × Str × (List GExpr)) =>
  bif (decide (x2.2.2.2.1 < 0)) then
   (ga (GRd.mk x2.1 x2.2.1 x2.2.2.1 x2.2.2.2.1)).bind fun r3 =>
   (gd (x2.2.2.2.2.2.length + [reExpr r3.2].length)).bind fun _ =>
   (sL11Sees r3.1 [44]).bind fun r4 =>
   bif (!r4.2) then
    (
     (sL11Take r4.1 x2.2.2.2.2.1).bind fun r5 =>
     some (r5, x2.2.2.2.2.2 ++ [reExpr r3.2])
    ).bind fun r => some (.inr r)
   else
    some (.inl (r4.1.toks, w64 (r4.1.i + 1), r4.1.stop, r4.1.bad, x2.2.2.2.2.1, x2.2.2.2.2.2 ++ [reExpr r3.2]))
  else
   (
    (sL11Take (GRd.mk x2.1 x2.2.1 x2.2.2.1 x2.2.2.2.1) x2.2.2.2.2.1).bind fun r6 =>
    some (r6, x2.2.2.2.2.2)
   ).bind fun r => some (.inr r)
 )
theorem listB_I (fa r2 r3 r4 r5) (a : GPsr) (b : Str) : iParserList2B fa r2 r3 r4 r5 a b = (iParserSymbol a b).bind fun r1 => bif r1.2 then some (r1.1, []) else loopD (listI fa) (r1.1.toks, r1.1.i, r1.1.bad, b, []) := rfl
theorem listB_S (ga r2 r3 r4 r5 r6) (a : GRd) (b : Str) : sL11ArgsB ga r2 r3 r4 r5 r6 a b = (sL11Sees a b).bind fun r1 => bif r1.2 then some (GRd.mk r1.1.toks (w64 (r1.1.i + 1)) r1.1.stop r1.1.bad, []) else loopD (listS ga) (r1.1.toks, r1.1.i, r1.1.stop, r1.1.bad, b, []) := rfl
theorem bad_I {s : PS} : decide ((encI toks s).bad < 0) = s.bad.isNone := by
 unfold encI
 cases s.bad with
 | none => rfl
 | some b => simp
theorem bad_S (h : ToksOk toks stop) {s : PS} : decide ((encS toks stop s).bad < 0) = s.bad.isNone := by
 unfold encS
 cases s.bad with
 | none => rfl
 | some b =>
  have := offOf_nonneg h b
  simp; omega
theorem gdp {n : Nat} (h : n <= 34359738368) : gd n = some () := by unfold gd; simp [h]
theorem list_end_I (fa) {s : PS} (hb : s.bad.isNone = false) (b : Str) (o : List GExpr) : loopD (listI fa) (plI toks s b o) = some (encI toks s, o) := by
 rw [loopD_eq]
 have e : listI fa (plI toks s b o) = some (.inr (encI toks s, o)) := by
  unfold listI
  show (bif decide ((encI toks s).bad < 0) then _ else _) = _
  rw [bad_I, hb]; rfl
 rw [e]
theorem fail_end {s : PS} (hb : s.bad.isNone = false) : psFail s = s := by
 unfold psFail
 cases h : s.bad with
 | some b => rfl
 | none => rw [h] at hb; cases hb
theorem list_end_S (h : ToksOk toks stop) (ga) {s : PS} (hb : s.bad.isNone = false) (b : Str) (o : List GExpr) : loopD (listS ga) (plS toks stop s b o) = some (encS toks stop s, o) := by
 rw [loopD_eq]
 have e : listS ga (plS toks stop s b o) = some (.inr (encS toks stop s, o)) := by
  unfold listS
  show (bif decide ((encS toks stop s).bad < 0) then _ else ((sL11Take (encS toks stop s) b).bind fun r6 => some (r6, o)).bind fun r => some (Sum.inr r)) = _
  have ht : psTake toks s b = s := by
   have : sees toks s b = false := by
    unfold sees
    cases h : s.bad with
    | some b => rfl
    | none => rw [h] at hb; cases hb
   unfold psTake
   rw [this, if_neg Bool.false_ne_true, fail_end hb]
  rw [bad_S h, hb, sTake_eq h, ht]; rfl
 rw [e]
theorem list_loop (h : ToksOk toks stop) {k i0 : Nat} {fa ga} (hA : ∀ s, s.i <= toks.length -> rem toks s <= k -> Sim wtE toks stop fa ga s) (b : Str) (hlb : letter b = false) (hbc : b ≠ [44]) : ∀ (r : Nat) (s : PS) (o1 o2 : List GExpr), s.i <= toks.length -> rem toks s <= r -> r <= k -> o1.length <= s.i -> o2.length <= s.i -> (s.bad = none -> o1 = o2 /\ wtL o1 + i0 <= s.i) ->
  ∃ (s' : PS) (x y : List GExpr), loopD (listI fa) (plI toks s b o1) = some (encI toks s', x) /\ loopD (listS ga) (plS toks stop s b o2) = some (encS toks stop s', y) /\ (s'.bad = none -> x = y /\ wtL x + i0 <= s'.i) /\ Adv toks s s' := by
 have step : ∀ (s : PS) (o1 o2 : List GExpr), s.i <= toks.length -> rem toks s <= k -> o1.length <= s.i -> o2.length <= s.i -> (s.bad = none -> o1 = o2 /\ wtL o1 + i0 <= s.i) ->
   (∀ (s1 : PS) (q1 q2 : List GExpr), s1.i <= toks.length -> rem toks s1 + 1 <= rem toks s -> q1.length <= s1.i -> q2.length <= s1.i -> (s1.bad = none -> q1 = q2 /\ wtL q1 + i0 <= s1.i) -> ∃ (s' : PS) (x y : List GExpr), loopD (listI fa) (plI toks s1 b q1) = some (encI toks s', x) /\ loopD (listS ga) (plS toks stop s1 b q2) = some (encS toks stop s', y) /\ (s'.bad = none -> x = y /\ wtL x + i0 <= s'.i) /\ Adv toks s1 s') ->
   ∃ (s' : PS) (x y : List GExpr), loopD (listI fa) (plI toks s b o1) = some (encI toks s', x) /\ loopD (listS ga) (plS toks stop s b o2) = some (encS toks stop s', y) /\ (s'.bad = none -> x = y /\ wtL x + i0 <= s'.i) /\ Adv toks s s' := by
  intro s o1 o2 hs hk h1 h2 he ih
  cases hb : s.bad.isNone with
  | false => exact ⟨s, o1, o2, list_end_I fa hb b o1, list_end_S h ga hb b o2, he, Adv.refl hs⟩
  | true =>
   have hlen := h.len
   obtain ⟨s1, x, y, p1, p2, p3, p4⟩ := hA s hs hk
   have hsb : s.bad = none := by cases hh : s.bad with
    | none => rfl
    | some b => rw [hh] at hb; cases hb
   have hoe := he hsb
   have eI : listI fa (plI toks s b o1) = (if sees toks s1 b = true then some (Sum.inr (encI toks (psNext s1), o1 ++ [x])) else some (Sum.inl (plI toks (psTake toks s1 [44]) b (o1 ++ [x])))) := by
    unfold listI
    show (bif decide ((encI toks s).bad < 0) then (fa (encI toks s)).bind fun r3 => (gd (o1.length + [reExpr r3.2].length)).bind fun _ => (iParserSymbol r3.1 b).bind fun r4 => bif r4.2 then some (Sum.inr (r4.1, o1 ++ [reExpr r3.2])) else (iParserNeed r4.1 [44]).bind fun r5 => some (Sum.inl (r5.toks, r5.i, r5.bad, b, o1 ++ [reExpr r3.2])) else _) = _
    rw [bad_I, hb]
    simp only [cond_true, p1, Option.bind_some, reExpr_eq, iSymbol_eq h s1 b hlb]
    rw [gdp (by simp; omega)]
    simp only [Option.bind_some]
    cases hc : sees toks s1 b with
    | true => simp
    | false =>
     simp only [cond_false, Bool.false_eq_true, if_false, iNeed_eq h, Option.bind_some]
     rfl
   have eS : listS ga (plS toks stop s b o2) = (if sees toks s1 [44] = true then some (Sum.inl (plS toks stop (psNext s1) b (o2 ++ [y]))) else some (Sum.inr (encS toks stop (psTake toks s1 b), o2 ++ [y]))) := by
    unfold listS
    show (bif decide ((encS toks stop s).bad < 0) then (ga (encS toks stop s)).bind fun r3 => (gd (o2.length + [reExpr r3.2].length)).bind fun _ => (sL11Sees r3.1 [44]).bind fun r4 => bif (!r4.2) then (((sL11Take r4.1 b).bind fun r5 => some (r5, o2 ++ [reExpr r3.2])).bind fun r => some (Sum.inr r)) else some (Sum.inl (r4.1.toks, w64 (r4.1.i + 1), r4.1.stop, r4.1.bad, b, o2 ++ [reExpr r3.2])) else _) = _
    rw [bad_S h, hb]
    simp only [cond_true, p2, Option.bind_some, reExpr_eq, sSees_eq h s1 [44]]
    rw [gdp (by simp; omega)]
    simp only [Option.bind_some]
    cases hc : sees toks s1 [44] with
    | true =>
     simp only [Bool.not_true, cond_false, if_true]
     have := sNextP (toks := toks) (stop := stop) (s := s1) h (sees_lt hc).2
     have e1 := congrArg GRd.i this
     have e1 : w64 ((encS toks stop s1).i + 1) = (encS toks stop (psNext s1)).i := e1
     rw [e1]; rfl
    | false => simp only [Bool.not_false, cond_true, Bool.false_eq_true, if_false, sTake_eq h, Option.bind_some]
   cases hc : sees toks s1 b with
   | true =>
    have hc2 := sees_ne hc hbc
    obtain ⟨hn, _⟩ := next_adv (sees_lt hc).1 (sees_lt hc).2
    refine ⟨psNext s1, o1 ++ [x], o2 ++ [y], ?_, ?_, fun hh => (by
     have a1 := p3 (sees_lt hc).1
     refine ⟨by rw [hoe.1, a1.1], ?_⟩
     have a2 := a1.2
     have a3 := hoe.2
     rw [wtL_append, wtL_one, psNext_i]
     omega), p4.trans hn⟩
    ·rw [loopD_eq, eI, hc]; rfl
    ·rw [loopD_eq, eS, hc2]
     simp only [Bool.false_eq_true, if_false]
     unfold psTake
     rw [hc, if_pos rfl]
   | false =>
    cases hc2 : sees toks s1 [44] with
    | true =>
     obtain ⟨hn, hr⟩ := next_adv (sees_lt hc2).1 (sees_lt hc2).2
     have hr1 := p4.rem
     have hle := p4.le
     obtain ⟨s', x', y', q1, q2, q3, q4⟩ := ih (psNext s1) (o1 ++ [x]) (o2 ++ [y]) hn.len (by omega) (by simp [psNext]; omega) (by simp [psNext]; omega) (fun _ => by
      have a1 := p3 (sees_lt hc2).1
      refine ⟨by rw [hoe.1, a1.1], ?_⟩
      have a2 := a1.2
      have a3 := hoe.2
      rw [wtL_append, wtL_one, psNext_i]
      omega)
     refine ⟨s', x', y', ?_, ?_, q3, (p4.trans hn).trans q4⟩
     ·rw [loopD_eq, eI, hc]
      simp only [Bool.false_eq_true, if_false]
      have e : psTake toks s1 [44] = psNext s1 := by unfold psTake; rw [hc2, if_pos rfl]
      rw [e]; exact q1
     ·rw [loopD_eq, eS, hc2]; exact q2
    | false =>
     have e : psTake toks s1 [44] = psFail s1 := by unfold psTake; rw [hc2, if_neg Bool.false_ne_true]
     have e2 : psTake toks s1 b = psFail s1 := by unfold psTake; rw [hc, if_neg Bool.false_ne_true]
     obtain ⟨b1, hb1⟩ := fail_bad s1
     have hbn : (psFail s1).bad.isNone = false := by rw [hb1]; rfl
     refine ⟨psFail s1, o1 ++ [x], o2 ++ [y], ?_, ?_, fun hh => (by rw [hb1] at hh; cases hh), p4.trans (fail_adv p4.len)⟩
     ·rw [loopD_eq, eI, hc]
      simp only [Bool.false_eq_true, if_false, e]
      exact list_end_I fa hbn b _
     ·rw [loopD_eq, eS, hc2]
      simp only [Bool.false_eq_true, if_false, e2]
 intro r
 induction r with
 | zero =>
  intro s o1 o2 hs hr hk h1 h2 he
  exact step s o1 o2 hs (by omega) h1 h2 he fun s1 q1 q2 _ hlt => by omega
 | succ r ih =>
  intro s o1 o2 hs hr hk h1 h2 he
  exact step s o1 o2 hs (by omega) h1 h2 he fun s1 q1 q2 a1 a2 a3 a4 a5 => ih s1 q1 q2 a1 (by omega) (by omega) a3 a4 a5
theorem list_sim (h : ToksOk toks stop) {k : Nat} {fa ga} (hA : ∀ s, s.i <= toks.length -> rem toks s <= k -> Sim wtE toks stop fa ga s) (b : Str) (hlb : letter b = false) (hbc : b ≠ [44]) (r2 r3 r4 r5 t2 t3 t4 t5 t6) (s : PS) (hs : s.i <= toks.length) (hk : rem toks s <= k) :
  Sim wtL toks stop (fun a => iParserList2B fa r2 r3 r4 r5 a b) (fun a => sL11ArgsB ga t2 t3 t4 t5 t6 a b) s := by
 cases hc : sees toks s b with
 | true =>
  obtain ⟨hn, _⟩ := next_adv (sees_lt hc).1 (sees_lt hc).2
  refine ⟨psNext s, [], [], ?_, ?_, fun _ => ⟨rfl, by rw [psNext_i]; simp [wtL]⟩, hn⟩
  ·show iParserList2B fa r2 r3 r4 r5 (encI toks s) b = _
   rw [listB_I, iSymbol_eq h s b hlb, hc]; rfl
  ·show sL11ArgsB ga t2 t3 t4 t5 t6 (encS toks stop s) b = _
   rw [listB_S, sSees_eq h s b, hc]
   simp only [Option.bind_some, cond_true]
   rw [sNextP h (sees_lt hc).2]
 | false =>
  obtain ⟨s', x', y', p1, p2, p3, p4⟩ := list_loop h hA b hlb hbc (rem toks s) s [] [] hs (Nat.le_refl _) hk (Nat.zero_le _) (Nat.zero_le _) (fun _ => ⟨rfl, by show 0 + s.i <= s.i; omega⟩)
  refine ⟨s', x', y', ?_, ?_, p3, p4⟩
  ·show iParserList2B fa r2 r3 r4 r5 (encI toks s) b = _
   rw [listB_I, iSymbol_eq h s b hlb, hc]; exact p1
  ·show sL11ArgsB ga t2 t3 t4 t5 t6 (encS toks stop s) b = _
   rw [listB_S, sSees_eq h s b, hc]; exact p2
variable {toks : List GToken} {stop : Int}
theorem ok_bif {α : Type} {c : Bool} {x y : Option α} (hx : ∃ r, x = some r) (hy : ∃ r, y = some r) : ∃ r, (bif c then x else y) = some r := by
 cases c
 ·exact hy
 ·exact hx
theorem argc_ok (a : Str) : ∃ r, sArgumentCount a = some r := by
 unfold sArgumentCount
 repeat refine ok_bif ⟨_, rfl⟩ ?_
 exact ⟨_, rfl⟩
def argc (a : Str) : Int := (sArgumentCount a).getD (-1)
theorem sArgc_eq (a : Str) : sArgumentCount a = some (argc a) := by
 obtain ⟨r, h⟩ := argc_ok a
 unfold argc
 rw [h]; rfl
theorem iArgc_eq (a : Str) : iArgumentCount a = some (argc a) := (iArgs_eq a).trans (sArgc_eq a)
def tailI (toks : List GToken) (fe : GPsr -> Option (GPsr × GExpr)) (fl : GPsr -> Str -> Option (GPsr × List GExpr)) (s : PS) : Option (GPsr × GExpr) :=
 if sees toks s [91] = true then (fl (encI toks (psNext s)) [93]).bind fun r => some (r.1, ⟨4, 0, [], r.2⟩)
 else if sees toks s [40] = true then (fe (encI toks (psNext s))).bind fun r => (iParserNeed r.1 [41]).bind fun r2 => some (r2, r.2)
 else some (encI toks (psFail s), ⟨0, 0, [], []⟩)
def tailS (toks : List GToken) (stop : Int) (ge : GRd -> Option (GRd × GExpr)) (gl : GRd -> Str -> Option (GRd × List GExpr)) (s : PS) : Option (GRd × GExpr) :=
 if sees toks s [91] = true then (gl (encS toks stop (psNext s)) [93]).bind fun r => some (r.1, ⟨4, 0, [], r.2⟩)
 else if sees toks s [40] = true then (ge (encS toks stop (psNext s))).bind fun r => (sL11Take r.1 [41]).bind fun r2 => some (r2, r.2)
 else some (encS toks stop (psFail s), ⟨0, 0, [], []⟩)
def atomI (toks : List GToken) (fe : GPsr -> Option (GPsr × GExpr)) (fl : GPsr -> Str -> Option (GPsr × List GExpr)) (s : PS) : Option (GPsr × GExpr) :=
 if (nextT toks s).kind = 2 then some (encI toks (psNext s), ⟨1, (nextT toks s).n, [], []⟩)
 else if (nextT toks s).kind = 3 then some (encI toks (psNext s), ⟨2, 0, (nextT toks s).text, []⟩)
 else if (nextT toks s).kind = 1 then
  if validB (nextT toks s).text = true then some (encI toks (psNext s), ⟨3, 0, (nextT toks s).text, []⟩)
  else if 0 <= argc (nextT toks s).text then (fl (encI toks (psTake toks (psNext s) [40])) [41]).bind fun r => some (r.1, ⟨5, 0, (nextT toks s).text, r.2⟩)
  else tailI toks fe fl s
 else tailI toks fe fl s
def atomS (toks : List GToken) (stop : Int) (ge : GRd -> Option (GRd × GExpr)) (gl : GRd -> Str -> Option (GRd × List GExpr)) (s : PS) : Option (GRd × GExpr) :=
 if (nextT toks s).kind = 2 then some (encS toks stop (psNext s), ⟨1, (nextT toks s).n, [], []⟩)
 else if (nextT toks s).kind = 3 then some (encS toks stop (psNext s), ⟨2, 0, (nextT toks s).text, []⟩)
 else if (nextT toks s).kind = 1 then
  if validB (nextT toks s).text = true then some (encS toks stop (psNext s), ⟨3, 0, (nextT toks s).text, []⟩)
  else if 0 <= argc (nextT toks s).text then (gl (encS toks stop (psTake toks (psNext s) [40])) [41]).bind fun r => some (r.1, ⟨5, 0, (nextT toks s).text, r.2⟩)
  else tailS toks stop ge gl s
 else tailS toks stop ge gl s
theorem tailI_eq (h : ToksOk toks stop) (fe fl) (s : PS) : ((iParserSymbol (encI toks s) [91]).bind fun r6 =>
      bif r6.2 then (fl r6.1 [93]).bind fun r7 => some (r7.1, GExpr.mk 4 0 [] r7.2)
      else (iParserSymbol r6.1 [40]).bind fun r8 => bif r8.2 then (fe r8.1).bind fun r9 => (iParserNeed r9.1 [41]).bind fun r10 => some (r10, reExpr r9.2)
       else (iParserFail r8.1).bind fun r11 => some (r11.1, reExpr r11.2)) = tailI toks fe fl s := by
 unfold tailI
 rw [iSymbol_eq h s [91] rfl]
 simp only [Option.bind_some, reExpr_eq]
 cases hc : sees toks s [91] with
 | true => simp
 | false =>
  simp only [cond_false, Bool.false_eq_true, if_false, iSymbol_eq h s [40] rfl, Option.bind_some]
  cases hc2 : sees toks s [40] with
  | true => simp
  | false => simp [iFail_eq]
theorem atomI_eq (h : ToksOk toks stop) (fe r2 r3 r4 fl) (s : PS) : iParserAtomB fe r2 r3 r4 fl (encI toks s) = atomI toks fe fl s := by
 have hok := nextT_ok h s
 unfold iParserAtomB atomI
 rw [iNext_eq h]
 simp only [Option.bind_some, iValid_eq _ hok.len, iArgc_eq]
 have hnx : ¬ (nextT toks s).kind = 0 -> (GPsr.mk (encI toks s).toks (w64 ((encI toks s).i + 1)) (encI toks s).bad) = encI toks (psNext s) := fun h0 => iNextP h (nextT_lt h0).2.1
 by_cases k2 : (nextT toks s).kind = 2
 ·have e : ((nextT toks s).kind == 2) = true := by simp [k2]
  rw [e, if_pos k2, hnx (by rw [k2]; decide)]; rfl
 ·have e2 : ((nextT toks s).kind == 2) = false := by simp [k2]
  rw [e2, if_neg k2]
  simp only [cond_false]
  by_cases k3 : (nextT toks s).kind = 3
  ·have e : ((nextT toks s).kind == 3) = true := by simp [k3]
   rw [e, if_pos k3, hnx (by rw [k3]; decide)]; rfl
  ·have e3 : ((nextT toks s).kind == 3) = false := by simp [k3]
   rw [e3, if_neg k3]
   simp only [cond_false]
   by_cases k1 : (nextT toks s).kind = 1
   ·have e : ((nextT toks s).kind == 1) = true := by simp [k1]
    rw [e, if_pos k1, hnx (by rw [k1]; decide)]
    simp only [cond_true]
    cases hv : validB (nextT toks s).text with
    | true => rfl
    | false =>
     simp only [cond_false, Bool.false_eq_true, if_false]
     by_cases ha : 0 <= argc (nextT toks s).text
     ·have ea : decide (argc (nextT toks s).text >= 0) = true := by simpa using ha
      rw [ea, if_pos ha]
      simp only [cond_true, iNeed_eq h, Option.bind_some]
     ·have ea : decide (argc (nextT toks s).text >= 0) = false := by simpa using ha
      rw [ea, if_neg ha]
      simp only [cond_false]
      exact tailI_eq h fe fl s
   ·have e : ((nextT toks s).kind == 1) = false := by simp [k1]
    rw [e, if_neg k1]
    simp only [cond_false]
    exact tailI_eq h fe fl s
theorem tailS_eq (h : ToksOk toks stop) (ge gl) {s : PS} (hb : s.bad = none) (hi : s.i < toks.length) : ((sIsSymbol (nextT toks s) [91]).bind fun r16 =>
  bif r16 then (gl (GRd.mk (encS toks stop s).toks (w64 ((encS toks stop s).i + 1)) (encS toks stop s).stop (encS toks stop s).bad) [93]).bind fun r17 => some (r17.1, GExpr.mk 4 0 [] r17.2)
  else (sIsSymbol (nextT toks s) [40]).bind fun r18 => bif r18 then (ge (GRd.mk (encS toks stop s).toks (w64 ((encS toks stop s).i + 1)) (encS toks stop s).stop (encS toks stop s).bad)).bind fun r19 => (sL11Take r19.1 [41]).bind fun r20 => some (r20, reExpr r19.2)
   else (sL11Fail (encS toks stop s)).bind fun r21 => some (r21.1, reExpr r21.2)) = tailS toks stop ge gl s := by
 unfold tailS
 simp only [sSym_eq, sym_sees h s [91] rfl, sym_sees h s [40] rfl, Option.bind_some, reExpr_eq, sNextP h hi, sFail_eq h]
 cases hc : sees toks s [91] with
 | true => simp
 | false =>
  simp only [cond_false, Bool.false_eq_true, if_false]
  cases hc2 : sees toks s [40] with
  | true => simp
  | false => simp
theorem atomS_eq (h : ToksOk toks stop) (ge t2 t3 t4 t5 gl) (s : PS) : sL11AtomB ge t2 t3 t4 t5 gl (encS toks stop s) = atomS toks stop ge gl s := by
 have hok := nextT_ok h s
 unfold sL11AtomB atomS
 simp only [sFail_eq h, Option.bind_some, reExpr_eq]
 have dead : ∀ (hz : nextT toks s = ⟨0, 0, 0, []⟩), some (encS toks stop (psFail s), (⟨0, 0, [], []⟩ : GExpr)) = (if (nextT toks s).kind = 2 then some (encS toks stop (psNext s), ⟨1, (nextT toks s).n, [], []⟩)
   else if (nextT toks s).kind = 3 then some (encS toks stop (psNext s), ⟨2, 0, (nextT toks s).text, []⟩)
   else if (nextT toks s).kind = 1 then
    if validB (nextT toks s).text = true then some (encS toks stop (psNext s), ⟨3, 0, (nextT toks s).text, []⟩)
    else if 0 <= argc (nextT toks s).text then (gl (encS toks stop (psTake toks (psNext s) [40])) [41]).bind fun r => some (r.1, ⟨5, 0, (nextT toks s).text, r.2⟩)
    else tailS toks stop ge gl s
   else tailS toks stop ge gl s) := by
  intro hz
  have n1 : ∀ x, letter x = false -> sees toks s x = false := fun x hx => by rw [<- sym_sees h s x hx, hz]; rfl
  rw [hz]
  unfold tailS
  rw [n1 [91] rfl, n1 [40] rfl]
  rfl
 cases hb : s.bad with
 | some b =>
  have := offOf_nonneg h b
  have e : decide ((encS toks stop s).bad >= 0) = true := by simp [encS, hb]; omega
  rw [e]
  simp only [cond_true]
  exact dead (by unfold nextT; rw [hb])
 | none =>
  have e : decide ((encS toks stop s).bad >= 0) = false := by simp [encS, hb]
  rw [e]
  simp only [cond_false]
  by_cases hi : s.i < toks.length
  ·have e1 : decide ((encS toks stop s).i >= ((encS toks stop s).toks.length : Int)) = false := by simp [encS]; omega
   have ht : toks[s.i]? = some (nextT toks s) := by simp [nextT, hb, List.getElem?_eq_getElem hi]
   have hid : idx (encS toks stop s).toks (encS toks stop s).i = some (nextT toks s) := by
    show idx toks (s.i : Int) = _
    rw [idx_nat, ht]
   rw [e1]
   simp only [cond_false, hid, Option.bind_some, sValid_eq _ hok.len, sArgc_eq, sL10Num, sL10Name, reExpr_eq]
   by_cases k2 : (nextT toks s).kind = 2
   ·have e : ((nextT toks s).kind == 2) = true := by simp [k2]
    rw [e, if_pos k2, sNextP h hi]; rfl
   ·have e2 : ((nextT toks s).kind == 2) = false := by simp [k2]
    rw [e2, if_neg k2]
    simp only [cond_false]
    by_cases k3 : (nextT toks s).kind = 3
    ·have e : ((nextT toks s).kind == 3) = true := by simp [k3]
     rw [e, if_pos k3, sNextP h hi]; rfl
    ·have e3 : ((nextT toks s).kind == 3) = false := by simp [k3]
     rw [e3, if_neg k3]
     simp only [cond_false]
     by_cases k1 : (nextT toks s).kind = 1
     ·have e : ((nextT toks s).kind == 1) = true := by simp [k1]
      rw [e, if_pos k1]
      simp only [cond_true]
      cases hv : validB (nextT toks s).text with
      | true => simp only [cond_true, if_true, sNextP h hi]
      | false =>
       simp only [cond_false, Bool.false_eq_true, if_false]
       by_cases ha : 0 <= argc (nextT toks s).text
       ·have ea : decide (argc (nextT toks s).text >= 0) = true := by simpa using ha
        rw [ea, if_pos ha, sNextP h hi]
        simp only [cond_true, sTake_eq h, Option.bind_some]
       ·have ea : decide (argc (nextT toks s).text >= 0) = false := by simpa using ha
        rw [ea, if_neg ha]
        simp only [cond_false]
        have := tailS_eq h ge gl hb hi
        simp only [reExpr_eq, sFail_eq h, Option.bind_some] at this
        exact this
     ·have e : ((nextT toks s).kind == 1) = false := by simp [k1]
      rw [e, if_neg k1]
      simp only [cond_false]
      have := tailS_eq h ge gl hb hi
      simp only [reExpr_eq, sFail_eq h, Option.bind_some] at this
      exact this
  ·have e1 : decide ((encS toks stop s).i >= ((encS toks stop s).toks.length : Int)) = true := by simp [encS]; omega
   have ht : toks[s.i]? = none := List.getElem?_eq_none (by omega)
   rw [e1]
   simp only [cond_true]
   exact dead (by unfold nextT; rw [hb]; simp [ht])
theorem adv_none {s s' : PS} (h : Adv toks s s') (hb : s'.bad = none) : s.bad = none := by
 cases hs : s.bad with
 | none => rfl
 | some b => rw [h.bad b hs, hs] at hb; cases hb
theorem tail_sim (h : ToksOk toks stop) {k : Nat} {fe ge fl gl} (hE : ∀ s, s.i <= toks.length -> rem toks s + 1 <= k -> Sim wtE toks stop fe ge s)
  (hL : ∀ b, letter b = false -> b ≠ [44] -> ∀ s, s.i <= toks.length -> rem toks s + 1 <= k -> Sim wtL toks stop (fun a => fl a b) (fun a => gl a b) s) (s : PS) (hs : s.i <= toks.length) (hk : rem toks s <= k) :
  ∃ (s' : PS) (x y : GExpr), tailI toks fe fl s = some (encI toks s', x) /\ tailS toks stop ge gl s = some (encS toks stop s', y) /\ (s'.bad = none -> x = y /\ wtE x + s.i <= s'.i) /\ Adv toks s s' := by
 unfold tailI tailS
 cases hc : sees toks s [91] with
 | true =>
  obtain ⟨hn, hr⟩ := next_adv (sees_lt hc).1 (sees_lt hc).2
  obtain ⟨s1, x, y, p1, p2, p3, p4⟩ := hL [93] rfl (by decide) (psNext s) hn.len (by omega)
  refine ⟨s1, ⟨4, 0, [], x⟩, ⟨4, 0, [], y⟩, ?_, ?_, fun hb => (by
   have a1 := p3 hb
   refine ⟨by rw [a1.1], ?_⟩
   have a2 := a1.2
   rw [psNext_i] at a2
   rw [wtE_nil]
   omega), hn.trans p4⟩
  ·simp only [if_true]
   rw [show fl (encI toks (psNext s)) [93] = _ from p1]; rfl
  ·simp only [if_true]
   rw [show gl (encS toks stop (psNext s)) [93] = _ from p2]; rfl
 | false =>
  simp only [Bool.false_eq_true, if_false]
  cases hc2 : sees toks s [40] with
  | true =>
   obtain ⟨hn, hr⟩ := next_adv (sees_lt hc2).1 (sees_lt hc2).2
   obtain ⟨s1, x, y, p1, p2, p3, p4⟩ := hE (psNext s) hn.len (by omega)
   have ht := take_adv (x := [41]) p4.len
   refine ⟨psTake toks s1 [41], x, y, ?_, ?_, fun hb => (by
    have a1 := p3 (adv_none ht hb)
    refine ⟨a1.1, ?_⟩
    have a2 := a1.2
    rw [psNext_i] at a2
    have a3 := ht.le
    omega), (hn.trans p4).trans ht⟩
   ·simp only [if_true, p1, Option.bind_some, iNeed_eq h]
   ·simp only [if_true, p2, Option.bind_some, sTake_eq h]
  | false =>
   simp only [Bool.false_eq_true, if_false]
   obtain ⟨b1, hb1⟩ := fail_bad s
   exact ⟨psFail s, _, _, rfl, rfl, fun hb => (by rw [hb1] at hb; cases hb), fail_adv hs⟩
theorem leaf_wt {s : PS} {t : GToken} (h : TokOk t) {k n : Int} {x : Str} (hx : x = [] \/ x = t.text) : wtE ⟨k, n, x, []⟩ + s.i <= (psNext s).i := by
 have hl : x.length <= 120 := by
  rcases hx with rfl | rfl
  ·simp
  ·exact h.len
 rw [wtE_short hl, psNext_i]
 simp [wtL]
 omega
theorem atom_sim (h : ToksOk toks stop) {k : Nat} {fe ge fl gl} (hE : ∀ s, s.i <= toks.length -> rem toks s + 1 <= k -> Sim wtE toks stop fe ge s)
  (hL : ∀ b, letter b = false -> b ≠ [44] -> ∀ s, s.i <= toks.length -> rem toks s + 1 <= k -> Sim wtL toks stop (fun a => fl a b) (fun a => gl a b) s) (r2 r3 r4 t2 t3 t4 t5) (s : PS) (hs : s.i <= toks.length) (hk : rem toks s <= k) :
  Sim wtE toks stop (iParserAtomB fe r2 r3 r4 fl) (sL11AtomB ge t2 t3 t4 t5 gl) s := by
 unfold Sim
 rw [atomI_eq h, atomS_eq h]
 have hT := tail_sim h hE hL s hs hk
 unfold atomI atomS
 by_cases k2 : (nextT toks s).kind = 2
 ·obtain ⟨hn, _⟩ := next_adv (nextT_lt (s := s) (by rw [k2]; decide)).1 (nextT_lt (s := s) (by rw [k2]; decide)).2.1
  rw [if_pos k2, if_pos k2]
  exact ⟨psNext s, _, _, rfl, rfl, fun _ => ⟨rfl, leaf_wt (nextT_ok h s) (by first | exact .inl rfl | exact .inr rfl)⟩, hn⟩
 rw [if_neg k2, if_neg k2]
 by_cases k3 : (nextT toks s).kind = 3
 ·obtain ⟨hn, _⟩ := next_adv (nextT_lt (s := s) (by rw [k3]; decide)).1 (nextT_lt (s := s) (by rw [k3]; decide)).2.1
  rw [if_pos k3, if_pos k3]
  exact ⟨psNext s, _, _, rfl, rfl, fun _ => ⟨rfl, leaf_wt (nextT_ok h s) (by first | exact .inl rfl | exact .inr rfl)⟩, hn⟩
 rw [if_neg k3, if_neg k3]
 by_cases k1 : (nextT toks s).kind = 1
 ·obtain ⟨hn, hr⟩ := next_adv (nextT_lt (s := s) (by rw [k1]; decide)).1 (nextT_lt (s := s) (by rw [k1]; decide)).2.1
  rw [if_pos k1, if_pos k1]
  cases hv : validB (nextT toks s).text with
  | true =>
   simp only [if_true]
   exact ⟨psNext s, _, _, rfl, rfl, fun _ => ⟨rfl, leaf_wt (nextT_ok h s) (by first | exact .inl rfl | exact .inr rfl)⟩, hn⟩
  | false =>
   simp only [Bool.false_eq_true, if_false]
   by_cases ha : 0 <= argc (nextT toks s).text
   ·rw [if_pos ha, if_pos ha]
    have ht := take_adv (x := [40]) hn.len
    have htr := ht.rem
    obtain ⟨s1, x, y, p1, p2, p3, p4⟩ := hL [41] rfl (by decide) (psTake toks (psNext s) [40]) ht.len (by omega)
    refine ⟨s1, ⟨5, 0, (nextT toks s).text, x⟩, ⟨5, 0, (nextT toks s).text, y⟩, ?_, ?_, fun hb => (by
     have a1 := p3 hb
     refine ⟨by rw [a1.1], ?_⟩
     have a2 := a1.2
     have a3 := ht.le
     rw [psNext_i] at a3
     rw [wtE_short (nextT_ok h s).len]
     omega), (hn.trans ht).trans p4⟩
    ·rw [show fl (encI toks (psTake toks (psNext s) [40])) [41] = _ from p1]; rfl
    ·rw [show gl (encS toks stop (psTake toks (psNext s) [40])) [41] = _ from p2]; rfl
   ·rw [if_neg ha, if_neg ha]; exact hT
 ·rw [if_neg k1, if_neg k1]; exact hT
abbrev CX := (List GToken) × Int × Int × Int × Int × Str × (List GExpr) × Int × Int × Str × (List GExpr) × (List Int) × Int × Int
def cmpI (fs : GPsr -> Option (GPsr × GExpr)) : CX -> Option (CX ⊕ (GPsr × GExpr)) := (fun (x23 : (List GToken) × Int × Int × Int × Int × Str × (List GExpr) × Int × Int × Str × (List GExpr) × (List Int) × Int × Int) =>
  bif (decide (x23.2.2.2.2.2.2.2.2.2.2.2.2.2 < x23.2.2.2.2.2.2.2.2.2.2.2.2.1)) then
   (idx x23.2.2.2.2.2.2.2.2.2.2.2.1 x23.2.2.2.2.2.2.2.2.2.2.2.2.2).bind fun _ =>
   (x23.2.2.2.2.2.2.2.2.2.2.2.1[x23.2.2.2.2.2.2.2.2.2.2.2.2.2.toNat]?).bind fun e25 =>
   (iOpSymbol e25).bind fun r26 =>
   (iParserSymbol (GPsr.mk x23.1 x23.2.1 x23.2.2.1) r26).bind fun r27 =>
   bif r27.2 then
    (fs r27.1).bind fun r28 =>
    some (.inr (r28.1, GExpr.mk 6 e25 [] [GExpr.mk x23.2.2.2.2.2.2.2.1 x23.2.2.2.2.2.2.2.2.1 x23.2.2.2.2.2.2.2.2.2.1 x23.2.2.2.2.2.2.2.2.2.2.1, reExpr r28.2]))
   else
    some (.inl (r27.1.toks, r27.1.i, r27.1.bad, x23.2.2.2.1, x23.2.2.2.2.1, x23.2.2.2.2.2.1, x23.2.2.2.2.2.2.1, x23.2.2.2.2.2.2.2.1, x23.2.2.2.2.2.2.2.2.1, x23.2.2.2.2.2.2.2.2.2.1, x23.2.2.2.2.2.2.2.2.2.2.1, x23.2.2.2.2.2.2.2.2.2.2.2.1, x23.2.2.2.2.2.2.2.2.2.2.2.2.1, w64 (x23.2.2.2.2.2.2.2.2.2.2.2.2.2 + 1)))
  else
   some (.inr (GPsr.mk x23.1 x23.2.1 x23.2.2.1, GExpr.mk x23.2.2.2.2.2.2.2.1 x23.2.2.2.2.2.2.2.2.1 x23.2.2.2.2.2.2.2.2.2.1 x23.2.2.2.2.2.2.2.2.2.2.1))
 )
def pkC (toks : List GToken) (s : PS) (e : GExpr) (j : Int) : CX := ((encI toks s).toks, (encI toks s).i, (encI toks s).bad, 0, 0, [], [], e.kind, e.n, e.text, e.args, [4, 5], 2, j)
def cmpF (toks : List GToken) (fs : GPsr -> Option (GPsr × GExpr)) (s : PS) (e : GExpr) : Option (GPsr × GExpr) :=
 if sees toks s [60] = true then (fs (encI toks (psNext s))).bind fun r => some (r.1, ⟨6, 4, [], [e, r.2]⟩)
 else if sees toks s [61, 61] = true then (fs (encI toks (psNext s))).bind fun r => some (r.1, ⟨6, 5, [], [e, r.2]⟩)
 else some (encI toks s, e)
theorem cmp_eq (h : ToksOk toks stop) (fs) (s : PS) (e : GExpr) : loopD (cmpI fs) (pkC toks s e 0) = cmpF toks fs s e := by
 obtain ⟨ek, en, et, ea⟩ := e
 have s1 : cmpI fs (pkC toks s ⟨ek, en, et, ea⟩ 0) = if sees toks s [60] = true then (fs (encI toks (psNext s))).bind fun r => some (.inr (r.1, ⟨6, 4, [], [⟨ek, en, et, ea⟩, r.2]⟩)) else some (.inl (pkC toks s ⟨ek, en, et, ea⟩ 1)) := by
  unfold cmpI
  show ((iParserSymbol (encI toks s) [60]).bind fun r27 => bif r27.2 then (fs r27.1).bind fun r28 => some (Sum.inr (r28.1, GExpr.mk 6 4 [] [⟨ek, en, et, ea⟩, reExpr r28.2])) else some (Sum.inl (r27.1.toks, r27.1.i, r27.1.bad, 0, 0, [], [], ek, en, et, ea, [4, 5], 2, w64 (0 + 1)))) = _
  rw [iSymbol_eq h s [60] rfl]
  simp only [Option.bind_some, reExpr_eq]
  cases hc : sees toks s [60] with
  | true => simp
  | false => simp only [cond_false, Bool.false_eq_true, if_false]; rfl
 have s2 : cmpI fs (pkC toks s ⟨ek, en, et, ea⟩ 1) = if sees toks s [61, 61] = true then (fs (encI toks (psNext s))).bind fun r => some (.inr (r.1, ⟨6, 5, [], [⟨ek, en, et, ea⟩, r.2]⟩)) else some (.inl (pkC toks s ⟨ek, en, et, ea⟩ 2)) := by
  unfold cmpI
  show ((iParserSymbol (encI toks s) [61, 61]).bind fun r27 => bif r27.2 then (fs r27.1).bind fun r28 => some (Sum.inr (r28.1, GExpr.mk 6 5 [] [⟨ek, en, et, ea⟩, reExpr r28.2])) else some (Sum.inl (r27.1.toks, r27.1.i, r27.1.bad, 0, 0, [], [], ek, en, et, ea, [4, 5], 2, w64 (1 + 1)))) = _
  rw [iSymbol_eq h s [61, 61] rfl]
  simp only [Option.bind_some, reExpr_eq]
  cases hc : sees toks s [61, 61] with
  | true => simp
  | false => simp only [cond_false, Bool.false_eq_true, if_false]; rfl
 have s3 : cmpI fs (pkC toks s ⟨ek, en, et, ea⟩ 2) = some (.inr (encI toks s, ⟨ek, en, et, ea⟩)) := rfl
 unfold cmpF
 rw [loopD_eq, s1]
 cases hc : sees toks s [60] with
 | true =>
  simp only [if_true]
  cases fs (encI toks (psNext s)) <;> rfl
 | false =>
  simp only [Bool.false_eq_true, if_false]
  rw [loopD_eq, s2]
  cases hc2 : sees toks s [61, 61] with
  | true =>
   simp only [if_true]
   cases fs (encI toks (psNext s)) <;> rfl
  | false =>
   simp only [Bool.false_eq_true, if_false]
   rw [loopD_eq, s3]
theorem two_wt {s s1 s2 : PS} {op : Int} {x y x2 y2 : GExpr} (p : x2 = y2 /\ wtE x2 + (psNext s1).i <= s2.i) (q : x = y /\ wtE x + s.i <= s1.i) : (⟨6, op, [], [x, x2]⟩ : GExpr) = ⟨6, op, [], [y, y2]⟩ /\ wtE ⟨6, op, [], [x, x2]⟩ + s.i <= s2.i := by
 refine ⟨by rw [p.1, q.1], ?_⟩
 have a1 := p.2
 have a2 := q.2
 rw [psNext_i] at a1
 rw [wtE_nil, wtL_two]
 omega
theorem cmp_sim (h : ToksOk toks stop) {k : Nat} {fs gs} (hS : ∀ s, s.i <= toks.length -> rem toks s <= k -> Sim wtE toks stop fs gs s) (t1 t2 t4 t5 t6) (s : PS) (hs : s.i <= toks.length) (hk : rem toks s <= k) :
  Sim wtE toks stop (fun a => (fs a).bind fun r => loopD (cmpI fs) (r.1.toks, r.1.i, r.1.bad, 0, 0, [], [], r.2.kind, r.2.n, r.2.text, r.2.args, [4, 5], ([4, 5].length : Int), 0)) (sL11CompareB t1 t2 gs t4 t5 t6) s := by
 obtain ⟨s1, x, y, q1, q2, q3, q4⟩ := hS s hs hk
 have hr1 := q4.rem
 have eI : ((fs (encI toks s)).bind fun r => loopD (cmpI fs) (r.1.toks, r.1.i, r.1.bad, 0, 0, [], [], r.2.kind, r.2.n, r.2.text, r.2.args, [4, 5], ([4, 5].length : Int), 0)) = cmpF toks fs s1 x := by
  rw [q1]
  exact cmp_eq h fs s1 x
 have eS : sL11CompareB t1 t2 gs t4 t5 t6 (encS toks stop s) = (if sees toks s1 [60] = true then (gs (encS toks stop (psNext s1))).bind fun r => some (r.1, ⟨6, 4, [], [y, r.2]⟩) else if sees toks s1 [61, 61] = true then (gs (encS toks stop (psNext s1))).bind fun r => some (r.1, ⟨6, 5, [], [y, r.2]⟩) else some (encS toks stop s1, y)) := by
  unfold sL11CompareB
  simp only [q2, Option.bind_some, sSees_eq h s1, sL10Op, reExpr_eq]
  cases hc : sees toks s1 [60] with
  | true =>
   simp only [cond_true, if_true]
   rw [sNextP h (sees_lt hc).2]
  | false =>
   simp only [cond_false, Bool.false_eq_true, if_false]
   cases hc2 : sees toks s1 [61, 61] with
   | true =>
    simp only [cond_true, if_true]
    rw [sNextP h (sees_lt hc2).2]
   | false => simp
 unfold Sim
 show ∃ (s' : PS) (x' y' : GExpr), ((fs (encI toks s)).bind fun r => loopD (cmpI fs) (r.1.toks, r.1.i, r.1.bad, 0, 0, [], [], r.2.kind, r.2.n, r.2.text, r.2.args, [4, 5], ([4, 5].length : Int), 0)) = _ /\ _
 rw [eI, eS]
 unfold cmpF
 cases hc : sees toks s1 [60] with
 | true =>
  obtain ⟨hn, hr⟩ := next_adv (sees_lt hc).1 (sees_lt hc).2
  obtain ⟨s2, x2, y2, p1, p2, p3, p4⟩ := hS (psNext s1) hn.len (by omega)
  refine ⟨s2, ⟨6, 4, [], [x, x2]⟩, ⟨6, 4, [], [y, y2]⟩, ?_, ?_, fun hb => (two_wt (p3 hb) (q3 (sees_lt hc).1)), (q4.trans hn).trans p4⟩
  ·simp only [if_true, p1, Option.bind_some]
  ·simp only [if_true, p2, Option.bind_some]
 | false =>
  simp only [Bool.false_eq_true, if_false]
  cases hc2 : sees toks s1 [61, 61] with
  | true =>
   obtain ⟨hn, hr⟩ := next_adv (sees_lt hc2).1 (sees_lt hc2).2
   obtain ⟨s2, x2, y2, p1, p2, p3, p4⟩ := hS (psNext s1) hn.len (by omega)
   refine ⟨s2, ⟨6, 5, [], [x, x2]⟩, ⟨6, 5, [], [y, y2]⟩, ?_, ?_, fun hb => (two_wt (p3 hb) (q3 (sees_lt hc2).1)), (q4.trans hn).trans p4⟩
   ·simp only [if_true, p1, Option.bind_some]
   ·simp only [if_true, p2, Option.bind_some]
  | false =>
   simp only [Bool.false_eq_true, if_false]
   exact ⟨s1, x, y, rfl, rfl, q3, q4⟩
theorem exprB_I (fe fs r3 r4 r5) (a : GPsr) : iParserExprB fe fs r3 r4 r5 a =
 ((iParserNext a).bind fun r1 =>
 (iIsKeyword r1.2 [108, 101, 116]).bind fun r2 =>
 bif r2 then
  (iParserName (GPsr.mk r1.1.toks (w64 (r1.1.i + 1)) r1.1.bad)).bind fun r3 =>
  (iParserNeed r3.1 [61]).bind fun r4 =>
  (fe r4).bind fun r5 =>
  (gd ([reExpr r5.2].length)).bind fun _ =>
  (iParserNeed r5.1 [105, 110]).bind fun r6 =>
  (fe r6).bind fun r7 =>
  (gd ([reExpr r5.2].length + [reExpr r7.2].length)).bind fun _ =>
  some (r7.1, GExpr.mk 7 0 r3.2 ([reExpr r5.2] ++ [reExpr r7.2]))
 else
 (iParserNext r1.1).bind fun r8 =>
 (iIsKeyword r8.2 [105, 102]).bind fun r9 =>
 bif r9 then
  (fe (GPsr.mk r8.1.toks (w64 (r8.1.i + 1)) r8.1.bad)).bind fun r10 =>
  (gd ([reExpr r10.2].length)).bind fun _ =>
  (iParserNeed r10.1 [116, 104, 101, 110]).bind fun r11 =>
  (fe r11).bind fun r12 =>
  (gd ([reExpr r10.2].length + [reExpr r12.2].length)).bind fun _ =>
  (iParserNeed r12.1 [101, 108, 115, 101]).bind fun r13 =>
  (fe r13).bind fun r14 =>
  (gd (([reExpr r10.2] ++ [reExpr r12.2]).length + [reExpr r14.2].length)).bind fun _ =>
  some (r14.1, GExpr.mk 8 0 [] (([reExpr r10.2] ++ [reExpr r12.2]) ++ [reExpr r14.2]))
 else
 (iParserNext r8.1).bind fun r15 =>
 (iIsKeyword r15.2 [102, 111, 114]).bind fun r16 =>
 bif r16 then
  (iParserName (GPsr.mk r15.1.toks (w64 (r15.1.i + 1)) r15.1.bad)).bind fun r17 =>
  (iParserNeed r17.1 [105, 110]).bind fun r18 =>
  (fe r18).bind fun r19 =>
  (gd ([reExpr r19.2].length)).bind fun _ =>
  (iParserNeed r19.1 [100, 111]).bind fun r20 =>
  (fe r20).bind fun r21 =>
  (gd ([reExpr r19.2].length + [reExpr r21.2].length)).bind fun _ =>
  some (r21.1, GExpr.mk 9 0 r17.2 ([reExpr r19.2] ++ [reExpr r21.2]))
 else
 (fs r15.1).bind fun r22 =>
 loopD (cmpI fs) (r22.1.toks, r22.1.i, r22.1.bad, 0, 0, [], [], r22.2.kind, r22.2.n, r22.2.text, r22.2.args, [4, 5], ([4, 5].length : Int), 0)) := rfl
theorem name_short (h : ToksOk toks stop) (s : PS) : (psName toks s).2.length <= 120 := by
 unfold psName
 split
 ·exact (nextT_ok h s).len
 ·simp
theorem expr_sim (h : ToksOk toks stop) {k : Nat} {fe ge fs gc} (hE : ∀ s, s.i <= toks.length -> rem toks s + 1 <= k -> Sim wtE toks stop fe ge s)
  (hC : ∀ s, s.i <= toks.length -> rem toks s <= k -> Sim wtE toks stop (fun a => (fs a).bind fun r => loopD (cmpI fs) (r.1.toks, r.1.i, r.1.bad, 0, 0, [], [], r.2.kind, r.2.n, r.2.text, r.2.args, [4, 5], ([4, 5].length : Int), 0)) gc s)
  (r3 r4 r5 t3 t4 t5 t6) (s : PS) (hs : s.i <= toks.length) (hk : rem toks s <= k) : Sim wtE toks stop (iParserExprB fe fs r3 r4 r5) (sL11ExprB ge gc t3 t4 t5 t6) s := by
 unfold Sim
 have g1 : ∀ x : GExpr, gd [x].length = some () := fun x => gdp (by simp)
 have g2 : ∀ x y : GExpr, gd ([x].length + [y].length) = some () := fun x y => gdp (by simp)
 have g3 : ∀ x y z : GExpr, gd (([x] ++ [y]).length + [z].length) = some () := fun x y z => gdp (by simp)
 rw [exprB_I]
 unfold sL11ExprB
 simp only [iNext_eq h, Option.bind_some, iKey_eq, key_sees h s [108, 101, 116] rfl, key_sees h s [105, 102] rfl, key_sees h s [102, 111, 114] rfl, sSees_eq h s, reExpr_eq]
 cases hc : sees toks s [108, 101, 116] with
 | true =>
  obtain ⟨hn, hr⟩ := next_adv (sees_lt hc).1 (sees_lt hc).2
  have a1 := name_adv (toks := toks) hn.len
  have a2 := take_adv (x := [61]) a1.len
  obtain ⟨s2, x2, y2, p1, p2, p3, p4⟩ := hE (psTake toks (psName toks (psNext s)).1 [61]) a2.len (by have := a1.rem; have := a2.rem; omega)
  have a3 := take_adv (x := [105, 110]) p4.len
  obtain ⟨s3, x3, y3, q1, q2, q3, q4⟩ := hE (psTake toks s2 [105, 110]) a3.len (by have := a1.rem; have := a2.rem; have := p4.rem; have := a3.rem; omega)
  refine ⟨s3, ⟨7, 0, (psName toks (psNext s)).2, [x2, x3]⟩, ⟨7, 0, (psName toks (psNext s)).2, [y2, y3]⟩, ?_, ?_, fun hb => (by
   have b1 := q3 hb
   have b2 := p3 (adv_none (a3.trans q4) hb)
   refine ⟨by rw [b1.1, b2.1], ?_⟩
   have c1 := b1.2
   have c2 := b2.2
   have c3 := a1.le
   have c4 := a2.le
   have c5 := a3.le
   rw [psNext_i] at c3
   rw [wtE_short (name_short h (psNext s)), wtL_two]
   omega), ((((hn.trans a1).trans a2).trans p4).trans a3).trans q4⟩
  ·simp only [cond_true]
   rw [iNextP h (sees_lt hc).2]
   simp only [iName_eq h, Option.bind_some, iNeed_eq h, p1, g1, g2, q1]
   rfl
  ·simp only [cond_true]
   rw [sNextP h (sees_lt hc).2]
   simp only [sName_eq h, Option.bind_some, sTake_eq h, p2, q2]
 | false =>
  simp only [cond_false]
  cases hc2 : sees toks s [105, 102] with
  | true =>
   obtain ⟨hn, hr⟩ := next_adv (sees_lt hc2).1 (sees_lt hc2).2
   obtain ⟨s2, x2, y2, p1, p2, p3, p4⟩ := hE (psNext s) hn.len (by omega)
   have a3 := take_adv (x := [116, 104, 101, 110]) p4.len
   obtain ⟨s3, x3, y3, q1, q2, q3, q4⟩ := hE (psTake toks s2 [116, 104, 101, 110]) a3.len (by have := p4.rem; have := a3.rem; omega)
   have a5 := take_adv (x := [101, 108, 115, 101]) q4.len
   obtain ⟨s4, x4, y4, u1, u2, u3, u4⟩ := hE (psTake toks s3 [101, 108, 115, 101]) a5.len (by have := p4.rem; have := a3.rem; have := q4.rem; have := a5.rem; omega)
   refine ⟨s4, ⟨8, 0, [], [x2, x3, x4]⟩, ⟨8, 0, [], [y2, y3, y4]⟩, ?_, ?_, fun hb => (by
    have b0 := u3 hb
    have b1 := q3 (adv_none (a5.trans u4) hb)
    have b2 := p3 (adv_none ((a3.trans q4).trans (a5.trans u4)) hb)
    refine ⟨by rw [b0.1, b1.1, b2.1], ?_⟩
    have c0 := b0.2
    have c1 := b1.2
    have c2 := b2.2
    have c3 := a3.le
    have c5 := a5.le
    rw [psNext_i] at c2
    rw [wtE_nil, wtL_three]
    omega), ((((hn.trans p4).trans a3).trans q4).trans a5).trans u4⟩
   ·simp only [cond_true]
    rw [iNextP h (sees_lt hc2).2]
    simp only [Option.bind_some, iNeed_eq h, p1, g1, g2, g3, q1, u1]
    rfl
   ·simp only [cond_true]
    rw [sNextP h (sees_lt hc2).2]
    simp only [Option.bind_some, sTake_eq h, p2, q2, u2]
  | false =>
   simp only [cond_false]
   cases hc3 : sees toks s [102, 111, 114] with
   | true =>
    obtain ⟨hn, hr⟩ := next_adv (sees_lt hc3).1 (sees_lt hc3).2
    have a1 := name_adv (toks := toks) hn.len
    have a2 := take_adv (x := [105, 110]) a1.len
    obtain ⟨s2, x2, y2, p1, p2, p3, p4⟩ := hE (psTake toks (psName toks (psNext s)).1 [105, 110]) a2.len (by have := a1.rem; have := a2.rem; omega)
    have a3 := take_adv (x := [100, 111]) p4.len
    obtain ⟨s3, x3, y3, q1, q2, q3, q4⟩ := hE (psTake toks s2 [100, 111]) a3.len (by have := a1.rem; have := a2.rem; have := p4.rem; have := a3.rem; omega)
    refine ⟨s3, ⟨9, 0, (psName toks (psNext s)).2, [x2, x3]⟩, ⟨9, 0, (psName toks (psNext s)).2, [y2, y3]⟩, ?_, ?_, fun hb => (by
   have b1 := q3 hb
   have b2 := p3 (adv_none (a3.trans q4) hb)
   refine ⟨by rw [b1.1, b2.1], ?_⟩
   have c1 := b1.2
   have c2 := b2.2
   have c3 := a1.le
   have c4 := a2.le
   have c5 := a3.le
   rw [psNext_i] at c3
   rw [wtE_short (name_short h (psNext s)), wtL_two]
   omega), ((((hn.trans a1).trans a2).trans p4).trans a3).trans q4⟩
    ·simp only [cond_true]
     rw [iNextP h (sees_lt hc3).2]
     simp only [iName_eq h, Option.bind_some, iNeed_eq h, p1, g1, g2, q1]
     rfl
    ·simp only [cond_true]
     rw [sNextP h (sees_lt hc3).2]
     simp only [sName_eq h, Option.bind_some, sTake_eq h, p2, q2]
   | false =>
    simp only [cond_false]
    obtain ⟨s', x, y, p1, p2, p3, p4⟩ := hC s hs hk
    refine ⟨s', x, y, p1, ?_, p3, p4⟩
    rw [p2]; rfl
variable {toks : List GToken} {stop : Int}
theorem parser_sim (h : ToksOk toks stop) : ∀ (k : Nat) (s : PS), s.i <= toks.length -> rem toks s <= k -> ∀ n m, 5 * k + 5 <= n -> 6 * k + 6 <= m -> Sim wtE toks stop (iParserExprG n).1 (sL11ExprG m).1 s := by
 intro k
 induction k using Nat.strongRecOn with
 | _ k ih =>
  have hE : ∀ n m, 5 * k <= n -> 6 * k <= m -> ∀ s, s.i <= toks.length -> rem toks s + 1 <= k -> Sim wtE toks stop (iParserExprG n).1 (sL11ExprG m).1 s := fun n m hn hm s hs hk =>
   ih (k - 1) (by omega) s hs (by omega) n m (by omega) (by omega)
  have hL : ∀ n m, 5 * k + 1 <= n -> 6 * k + 1 <= m -> ∀ b, letter b = false -> b ≠ [44] -> ∀ s, s.i <= toks.length -> rem toks s + 1 <= k -> Sim wtL toks stop (fun a => (iParserExprG n).2.2.2.2 a b) (fun a => (sL11ExprG m).2.2.2.2.2 a b) s := by
   intro n m hn hm b hb hbc s hs hk
   obtain ⟨n1, rfl⟩ : ∃ n1, n = n1 + 1 := ⟨n - 1, by omega⟩
   obtain ⟨m1, rfl⟩ : ∃ m1, m = m1 + 1 := ⟨m - 1, by omega⟩
   exact list_sim h (k := k - 1) (fun s hs hk => hE n1 m1 (by omega) (by omega) s hs (by omega)) b hb hbc (iParserExprG n1).2.1 (iParserExprG n1).2.2.1 (iParserExprG n1).2.2.2.1 (iParserExprG n1).2.2.2.2 (sL11ExprG m1).2.1 (sL11ExprG m1).2.2.1 (sL11ExprG m1).2.2.2.1 (sL11ExprG m1).2.2.2.2.1 (sL11ExprG m1).2.2.2.2.2 s hs (by omega)
  have hA : ∀ n m, 5 * k + 2 <= n -> 6 * k + 2 <= m -> ∀ s, s.i <= toks.length -> rem toks s <= k -> Sim wtE toks stop (iParserExprG n).2.2.2.1 (sL11ExprG m).2.2.2.2.1 s := by
   intro n m hn hm s hs hk
   obtain ⟨n1, rfl⟩ : ∃ n1, n = n1 + 1 := ⟨n - 1, by omega⟩
   obtain ⟨m1, rfl⟩ : ∃ m1, m = m1 + 1 := ⟨m - 1, by omega⟩
   exact atom_sim h (hE n1 m1 (by omega) (by omega)) (hL n1 m1 (by omega) (by omega)) (iParserExprG n1).2.1 (iParserExprG n1).2.2.1 (iParserExprG n1).2.2.2.1 (sL11ExprG m1).2.1 (sL11ExprG m1).2.2.1 (sL11ExprG m1).2.2.2.1 (sL11ExprG m1).2.2.2.2.1 s hs hk
  have hP : ∀ n m, 5 * k + 3 <= n -> 6 * k + 3 <= m -> ∀ s, s.i <= toks.length -> rem toks s <= k -> Sim wtE toks stop (iParserExprG n).2.2.1 (sL11ExprG m).2.2.2.1 s := by
   intro n m hn hm s hs hk
   obtain ⟨n1, rfl⟩ : ∃ n1, n = n1 + 1 := ⟨n - 1, by omega⟩
   obtain ⟨m1, rfl⟩ : ∃ m1, m = m1 + 1 := ⟨m - 1, by omega⟩
   exact prod_sim h (hA n1 m1 (by omega) (by omega)) (iParserExprG n1).1 (iParserExprG n1).2.1 (iParserExprG n1).2.2.1 (iParserExprG n1).2.2.2.2 (sL11ExprG m1).1 (sL11ExprG m1).2.1 (sL11ExprG m1).2.2.1 (sL11ExprG m1).2.2.2.1 (sL11ExprG m1).2.2.2.2.2 s hs hk
  have hS : ∀ n m, 5 * k + 4 <= n -> 6 * k + 4 <= m -> ∀ s, s.i <= toks.length -> rem toks s <= k -> Sim wtE toks stop (iParserExprG n).2.1 (sL11ExprG m).2.2.1 s := by
   intro n m hn hm s hs hk
   obtain ⟨n1, rfl⟩ : ∃ n1, n = n1 + 1 := ⟨n - 1, by omega⟩
   obtain ⟨m1, rfl⟩ : ∃ m1, m = m1 + 1 := ⟨m - 1, by omega⟩
   exact sum_sim h (hP n1 m1 (by omega) (by omega)) (iParserExprG n1).1 (iParserExprG n1).2.1 (iParserExprG n1).2.2.2.1 (iParserExprG n1).2.2.2.2 (sL11ExprG m1).1 (sL11ExprG m1).2.1 (sL11ExprG m1).2.2.1 (sL11ExprG m1).2.2.2.2.1 (sL11ExprG m1).2.2.2.2.2 s hs hk
  intro s hs hk n m hn hm
  obtain ⟨n1, rfl⟩ : ∃ n1, n = n1 + 1 := ⟨n - 1, by omega⟩
  obtain ⟨m1, rfl⟩ : ∃ m1, m = m1 + 1 := ⟨m - 1, by omega⟩
  refine expr_sim h (hE n1 m1 (by omega) (by omega)) (fs := (iParserExprG n1).2.1) (gc := (sL11ExprG m1).2.1) (fun s hs hk => ?_) (iParserExprG n1).2.2.1 (iParserExprG n1).2.2.2.1 (iParserExprG n1).2.2.2.2 (sL11ExprG m1).2.2.1 (sL11ExprG m1).2.2.2.1 (sL11ExprG m1).2.2.2.2.1 (sL11ExprG m1).2.2.2.2.2 s hs hk
  obtain ⟨m2, rfl⟩ : ∃ m2, m1 = m2 + 1 := ⟨m1 - 1, by omega⟩
  exact cmp_sim h (hS n1 m2 (by omega) (by omega)) (sL11ExprG m2).1 (sL11ExprG m2).2.1 (sL11ExprG m2).2.2.2.1 (sL11ExprG m2).2.2.2.2.1 (sL11ExprG m2).2.2.2.2.2 s hs hk
variable {toks : List GToken} {stop : Int}
theorem sizP_int (n : Int) : 1 <= SizeOf.sizeOf n := by
 cases n with
 | ofNat m => rw [Int.ofNat.sizeOf_spec]; omega
 | negSucc m => rw [Int.negSucc.sizeOf_spec]; omega
theorem sizP_list {α : Type} [SizeOf α] (xs : List α) : 1 <= SizeOf.sizeOf xs := by
 cases xs with
 | nil => rw [List.nil.sizeOf_spec]; omega
 | cons x r => rw [List.cons.sizeOf_spec]; omega
theorem siz_tok (t : GToken) : 5 <= SizeOf.sizeOf t := by
 obtain ⟨a, b, c, d⟩ := t
 rw [GToken.mk.sizeOf_spec]
 have := sizP_int a; have := sizP_int b; have := sizP_int c; have := sizP_list d
 omega
theorem siz_toks (toks : List GToken) : 6 * toks.length + 1 <= SizeOf.sizeOf toks := by
 induction toks with
 | nil => rw [List.nil.sizeOf_spec]; simp
 | cons t r ih =>
  rw [List.cons.sizeOf_spec]
  have := siz_tok t
  simp only [List.length_cons]
  omega
theorem parse_tokens (h : ToksOk toks stop) : ∃ (s' : PS) (x y : GExpr), iParserExpr (GPsr.mk toks 0 (-1)) = some (encI toks s', x) /\ sL11Expr (GRd.mk toks 0 stop (-1)) = some (encS toks stop s', y) /\ (s'.bad = none -> x = y /\ wtE x <= s'.i) /\ s'.i <= toks.length := by
 have h1 := siz_toks toks
 have hi : 5 * toks.length + 5 <= siz (GPsr.mk toks 0 (-1)) + 1 := by
  show _ <= SizeOf.sizeOf (GPsr.mk toks 0 (-1)) + 1
  rw [GPsr.mk.sizeOf_spec]
  have := sizP_int 0; have := sizP_int (-1)
  omega
 have hs : 6 * toks.length + 6 <= siz (GRd.mk toks 0 stop (-1)) + 1 := by
  show _ <= SizeOf.sizeOf (GRd.mk toks 0 stop (-1)) + 1
  rw [GRd.mk.sizeOf_spec]
  have := sizP_int 0; have := sizP_int (-1); have := sizP_int stop
  omega
 obtain ⟨s', x, y, p1, p2, p3, p4⟩ := parser_sim h toks.length ⟨0, none⟩ (Nat.zero_le _) (by simp [rem]) _ _ hi hs
 exact ⟨s', x, y, p1, p2, p3, p4.len⟩
theorem parse_join (a : Str) {toks : List GToken} {t : Int} (hi : iTokenize a = some (toks, t)) (hs : sTokenize a = some (toks, t)) (hok : t < 0 -> ToksOk toks (a.length : Int))
  (hv : ∀ e : GExpr, wtE e <= 60 -> ∃ v, iIsValidExpr e = some v /\ sIsValidExpr e = some v) : ∃ (e : GExpr) (p : Int), iParseExpr a = some (e, p) /\ sParseExpr a = some (e, p) /\ (p < 0 -> iIsValidExpr e = some true /\ wtE e <= 60) := by
 unfold iParseExpr sParseExpr
 rw [hi, hs]
 simp only [Option.bind_some]
 by_cases ht : t >= 0
 ·have e : decide (t >= 0) = true := by simpa using ht
  rw [e]
  exact ⟨_, _, rfl, rfl, fun h => by omega⟩
 ·have e : decide (t >= 0) = false := by simpa using ht
  rw [e]
  simp only [cond_false]
  have h := hok (by omega)
  obtain ⟨s', x, y, p1, p2, p3, p4⟩ := parse_tokens h
  have hlen := h.len
  rw [p1, p2]
  simp only [Option.bind_some, reExpr_eq]
  rw [bad_I, bad_S h]
  cases hb : s'.bad with
  | some b =>
   have eb : (encI toks s').bad = (b : Int) := by simp [encI, hb]
   have es : (encS toks (a.length : Int) s').bad = offOf toks (a.length : Int) b := by simp [encS, hb]
   have h0 := offOf_nonneg h b
   have d1 : decide ((encS toks (a.length : Int) s').bad >= 0) = true := by rw [es]; simpa using h0
   have d2 : decide ((encI toks s').bad >= 0) = true := by rw [eb]; simp
   rw [d1, d2, eb, es]
   simp only [Option.isNone_some, cond_false, cond_true]
   by_cases hbl : b < toks.length
   ·have d3 : decide ((b : Int) >= (toks.length : Int)) = false := by simp; omega
    rw [d3]
    simp only [cond_false, idx_nat, List.getElem?_eq_getElem hbl, Option.bind_some, Int.toNat_natCast]
    refine ⟨_, _, rfl, ?_, fun hh => ?_⟩
    ·simp [offOf, List.getElem?_eq_getElem hbl]
    ·have := (h.all _ (List.getElem_mem hbl)).pos; omega
   ·have d3 : decide ((b : Int) >= (toks.length : Int)) = true := by simp; omega
    rw [d3]
    simp only [cond_true]
    have : toks[b]? = none := List.getElem?_eq_none (by omega)
    refine ⟨_, _, rfl, ?_, fun hh => by omega⟩
    simp [offOf, this]
  | none =>
   have ei : (encI toks s').i = (s'.i : Int) := rfl
   have esi : (encS toks (a.length : Int) s').i = (s'.i : Int) := rfl
   have eb : (encI toks s').bad = -1 := by simp [encI, hb]
   have es : (encS toks (a.length : Int) s').bad = -1 := by simp [encS, hb]
   simp only [Option.isNone_none, cond_true, ei, esi, sFail_eq h, Option.bind_some]
   obtain ⟨hxy, hwt⟩ := p3 hb
   have hwt : wtE x <= 60 := by omega
   subst hxy
   by_cases hl : s'.i < toks.length
   ·have d1 : decide ((s'.i : Int) < (toks.length : Int)) = true := by simp; omega
    have d2 : decide ((s'.i : Int) >= (toks.length : Int)) = false := by simp; omega
    have d3 : decide ((s'.i : Int) >= 0) = true := by simp
    have hf : (encS toks (a.length : Int) (psFail s')).bad = toks[s'.i].pos := by simp [encS, psFail, hb, offOf, List.getElem?_eq_getElem hl]
    have h0 := (h.all _ (List.getElem_mem hl)).pos
    have d4 : decide ((encS toks (a.length : Int) (psFail s')).bad >= 0) = true := by rw [hf]; simpa using h0
    rw [d1, d2, d3, d4, hf]
    simp only [cond_true, cond_false, idx_nat, List.getElem?_eq_getElem hl, Option.bind_some, Int.toNat_natCast]
    exact ⟨_, _, rfl, rfl, fun hh => by omega⟩
   ·have d1 : decide ((s'.i : Int) < (toks.length : Int)) = false := by simp; omega
    have d2 : decide ((-1 : Int) >= (toks.length : Int)) = false := by simp; omega
    have d3 : decide ((-1 : Int) >= 0) = false := rfl
    obtain ⟨v, hv1, hv2⟩ := hv x hwt
    rw [d1, eb, es, d2, d3]
    simp only [cond_false, hv1, hv2, Option.bind_some]
    cases v with
    | false => exact ⟨_, _, rfl, rfl, fun hh => by omega⟩
    | true => exact ⟨_, _, rfl, rfl, fun _ => ⟨hv1, hwt⟩⟩
end
end Go.Proofs.YtgfjbogcidlaeaaGreatDoor
