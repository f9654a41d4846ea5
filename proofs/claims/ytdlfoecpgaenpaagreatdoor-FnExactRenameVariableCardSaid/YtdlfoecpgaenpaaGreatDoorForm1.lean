/- Plain laws: the text of an expression is alike on both sides. -/
import Derived.Test.YtdlfoecpgaenpaaGreatDoorExpr2
import Derived.Test.YtdlfoecpgaenpaaGreatDoorNum1
set_option linter.unusedSimpArgs false
set_option linter.unusedVariables false
namespace Go.Proofs.YtdlfoecpgaenpaaGreatDoor
open Go.Abs Go.Proofs
theorem octs_length (s : Str) : (octs s).length = s.length := by unfold octs; rw [List.length_map]
theorem bytesOf_octs (s : Str) : bytesOf (octs s) = s := by
 unfold bytesOf octs
 rw [List.map_map]
 refine (List.map_congr_left fun c _ => ?_).trans (List.map_id s)
 show UInt8.ofNat ((c.toNat : Int)).toNat = c
 rw [Int.toNat_natCast]
 exact UInt8.ofNat_toNat
theorem octs_append (a b : Str) : octs (a ++ b) = octs a ++ octs b := by unfold octs; rw [List.map_append]
theorem join_snoc (xs : List Str) (b : Str) {i : Nat} {x : Str} (h : xs[i]? = some x) : Go.Lib.join (xs.take (i + 1)) b = if i = 0 then x else Go.Lib.join (xs.take i) b ++ b ++ x := by
 cases xs with
 | nil => simp at h
 | cons y r =>
  cases i with
  | zero =>
   simp at h
   subst h
   simp [Go.Lib.join_one]
  | succ i =>
   simp at h
   rw [if_neg (by omega), List.take_succ_cons, List.take_succ_cons, Go.Lib.join_cons, Go.Lib.join_cons, Go.Lib.joinTail_take_succ b r i x h]
   simp [List.append_assoc]
theorem join_len (xs : List Str) (b : Str) : (Go.Lib.join xs b).length <= b.length * xs.length + Go.Lib.lens xs := by
 cases xs with
 | nil => simp [Go.Lib.join_nil]
 | cons x r =>
  rw [Go.Lib.join_length]
  have : b.length * r.length <= b.length * (x :: r).length := Nat.mul_le_mul_left _ (by simp)
  omega
theorem join_take_len (xs : List Str) (b : Str) (i : Nat) : (Go.Lib.join (xs.take i) b).length <= b.length * xs.length + Go.Lib.lens xs := by
 have h := join_len (xs.take i) b
 have h1 := Go.Lib.lens_take_le xs i
 have h2 : b.length * (xs.take i).length <= b.length * xs.length := Nat.mul_le_mul_left _ (by rw [List.length_take]; omega)
 omega
theorem sJoin_eq (xs : List Str) (b : Str) (hl : xs.length <= 1048576) (hb : b.length * xs.length + Go.Lib.lens xs <= 1000000000) (hb1 : b.length <= 1000) : sJoin xs b = some (Go.Lib.join xs b) := by
 unfold sJoin
 have key := list_run (g := fun (x1 : (List Str) × Str × (List Int) × Int) =>
  bif (decide (x1.2.2.2 < (x1.1.length : Int))) then
   bif (decide (x1.2.2.2 > 0)) then
    (gd (x1.2.2.1.length + (octs x1.2.1).length)).bind fun _ =>
    (idx x1.1 x1.2.2.2).bind fun e2 =>
    (gd ((x1.2.2.1 ++ (octs x1.2.1)).length + (octs e2).length)).bind fun _ =>
    some (.inl (x1.1, x1.2.1, (x1.2.2.1 ++ (octs x1.2.1)) ++ (octs e2), w64 (x1.2.2.2 + 1)))
   else
    (idx x1.1 x1.2.2.2).bind fun e3 =>
    (gd (x1.2.2.1.length + (octs e3).length)).bind fun _ =>
    some (.inl (x1.1, x1.2.1, x1.2.2.1 ++ (octs e3), w64 (x1.2.2.2 + 1)))
  else
   some (.inr (bytesOf x1.2.2.1))) (fun (s : List Int) (i : Nat) => ((xs, b, s, (i : Int)) : (List Str) × Str × (List Int) × Int)) xs (fun i s => s = octs (Go.Lib.join (xs.take i) b)) (fun r => r = Go.Lib.join xs b) (fun i x s hx hI => .inl ?_) (fun s hI => ?_) [] rfl
 ·obtain ⟨r, h, rfl⟩ := key
  exact h
 ·subst hI
  have h1 := join_take_len xs b i
  have h2 := join_take_len xs b (i + 1)
  have h3 := join_snoc xs b hx
  have hxl : x.length <= 1000000000 := by
   rw [h3] at h2
   split at h2
   ·omega
   ·rw [List.length_append] at h2; omega
  refine ⟨octs (Go.Lib.join (xs.take (i + 1)) b), ?_, rfl⟩
  simp only [cnt_in hx, cond_true, idx_nat, hx, Option.bind_some, cnt_up hx (by omega)]
  rw [h3]
  by_cases hi : i = 0
  ·subst hi
   have e : decide (((0 : Nat) : Int) > 0) = false := rfl
   rw [e, if_pos rfl]
   simp only [cond_false]
   rw [gdp (by rw [octs_length, octs_length]; omega)]
   rfl
  ·have e : decide ((i : Int) > 0) = true := by simp; omega
   rw [e, if_neg hi]
   simp only [cond_true]
   rw [gdp (by rw [octs_length, octs_length]; omega), Option.bind_some, gdp (by rw [List.length_append, octs_length, octs_length, octs_length]; omega), octs_append, octs_append]
   rfl
 ·subst hI
  refine ⟨_, by simp only [cnt_out, cond_false]; rfl, ?_⟩
  rw [List.take_length, bytesOf_octs]
theorem iJoin_eq (xs : List Str) (b : Str) (hl : xs.length <= 1048576) (hb : b.length * xs.length + Go.Lib.lens xs <= 1000000000) : iJoin xs b = some (Go.Lib.join xs b) := by
 have h1 := join_len xs b
 unfold iJoin libJoin
 rw [gdp (by omega), Option.bind_some, gdp (by omega)]
 rfl
theorem dec_len : ∀ (n q : Nat), 0 < q -> n < 10 ^ q -> (Go.Lib.decDigits n).length <= q := by
 intro n
 induction n using Nat.strongRecOn with
 | _ n ih =>
  intro q h0 hq
  rw [Go.Lib.decDigits]
  by_cases hn : n < 10
  ·rw [dif_pos hn]; simp; omega
  ·rw [dif_neg hn]
   have hp : 10 ^ q = 10 ^ (q - 1) * 10 := by rw [<- Nat.pow_succ]; congr 1; omega
   have hq1 : 0 < q - 1 := by
    rcases Nat.lt_or_ge 1 q with h | h
    ·omega
    ·have : q = 1 := by omega
     subst this
     simp at hq; omega
   have := ih (n / 10) (by omega) (q - 1) hq1 (by rw [hp] at hq; generalize 10 ^ (q - 1) = p at hq ⊢; omega)
   simp; omega
theorem itoa_len (n : Int) (h0 : 0 <= n) (h1 : n < 9223372036854775808) : (Go.Lib.itoa n).length <= 19 := by
 unfold Go.Lib.itoa
 rw [if_neg (by omega)]
 exact dec_len _ 19 (by omega) (by omega)
theorem iFormatInt_eq (n : Int) (h0 : -9223372036854775808 <= n) (h1 : n < 9223372036854775808) : iFormatInt n = some (Go.Lib.itoa n) := by
 unfold iFormatInt libItoa
 rw [if_pos ⟨h0, by omega⟩]
 rfl
theorem level_eq (e : GExpr) : iLevelOf e = sLevelOf e := rfl
theorem level_ok (e : GExpr) : ∃ r, sLevelOf e = some r /\ 0 <= r /\ r <= 4 := by
 have go : ∀ (c : Bool) (x y : Option Int), (∃ r, x = some r /\ 0 <= r /\ r <= 4) -> (∃ r, y = some r /\ 0 <= r /\ r <= 4) -> ∃ r, (bif c then x else y) = some r /\ 0 <= r /\ r <= 4 := by
  intro c x y hx hy
  cases c with
  | true => exact hy |> fun _ => hx
  | false => exact hy
 have v : ∀ k : Int, 0 <= k -> k <= 4 -> ∃ r, (some k : Option Int) = some r /\ 0 <= r /\ r <= 4 := fun k h h' => ⟨k, rfl, h, h'⟩
 have z0 := v 0 (by decide) (by decide)
 have z1 := v 1 (by decide) (by decide)
 have z2 := v 2 (by decide) (by decide)
 have z3 := v 3 (by decide) (by decide)
 have z4 := v 4 (by decide) (by decide)
 unfold sLevelOf
 exact go _ _ _ z0 (go _ _ _ z0 (go _ _ _ z0 (go _ _ _ (go _ _ _ z1 (go _ _ _ z1 (go _ _ _ z2 (go _ _ _ z2 (go _ _ _ z3 z4))))) z4)))
theorem opSym_ok (n : Int) (h0 : 1 <= n) (h1 : n <= 5) : ∃ s, iOpSymbol n = some s /\ sOpSymbol n = some s /\ s.length <= 2 := by
 have : n = 1 \/ n = 2 \/ n = 3 \/ n = 4 \/ n = 5 := by omega
 rcases this with rfl | rfl | rfl | rfl | rfl
 ·exact ⟨[43], rfl, rfl, by decide⟩
 ·exact ⟨[45], rfl, rfl, by decide⟩
 ·exact ⟨[42], rfl, rfl, by decide⟩
 ·exact ⟨[60], rfl, rfl, by decide⟩
 ·exact ⟨[61, 61], rfl, rfl, by decide⟩
theorem args_two {e : GExpr} (h : e.args.length = 2) : ∃ a b, e.args = [a, b] := by
 cases h1 : e.args with
 | nil => rw [h1] at h; cases h
 | cons a r => cases r with
  | nil => rw [h1] at h; cases h
  | cons b r => cases r with
   | nil => exact ⟨a, b, rfl⟩
   | cons c r => rw [h1] at h; simp at h
theorem args_three {e : GExpr} (h : e.args.length = 3) : ∃ a b c, e.args = [a, b, c] := by
 cases h1 : e.args with
 | nil => rw [h1] at h; cases h
 | cons a r => cases r with
  | nil => rw [h1] at h; cases h
  | cons b r => cases r with
   | nil => rw [h1] at h; cases h
   | cons c r => cases r with
    | nil => exact ⟨a, b, c, rfl⟩
    | cons d r => rw [h1] at h; simp at h
theorem source_alike : ∀ (n : Nat),
  (∀ e : GExpr, siz e < n -> ValidX e -> wtE e <= 1000 -> ∃ s, (iSourceG n).1 e = some s /\ (sL12TextG n).1 e = some s /\ s.length + 4 <= 200 * wtE e) /\
  (∀ xs : List GExpr, siz xs < n -> (∀ x, x ∈ xs -> ValidX x) -> wtL xs <= 1000 -> ∃ s, (iSourceG n).2.1 xs = some s /\ (sL12TextG n).2.1 xs = some s /\ s.length <= 200 * wtL xs) /\
  (∀ (e : GExpr) (b : Int), siz e + 1 < n -> ValidX e -> wtE e <= 1000 -> ∃ s, (iSourceG n).2.2 e b = some s /\ (sL12TextG n).2.2 e b = some s /\ s.length + 2 <= 200 * wtE e)
 | 0 => ⟨fun _ h => absurd h (Nat.not_lt_zero _), fun _ h => absurd h (Nat.not_lt_zero _), fun _ _ h => absurd h (Nat.not_lt_zero _)⟩
 | n + 1 => by
  obtain ⟨ihT, ihL, ihA⟩ := source_alike n
  refine ⟨fun e hn hv hc => ?_, fun xs hn hv hc => ?_, fun e b hn hv hc => ?_⟩
  ·show ∃ s, iSourceB (iSourceG n).1 (iSourceG n).2.1 (iSourceG n).2.2 e = some s /\ sL12TextB (sL12TextG n).1 (sL12TextG n).2.1 (sL12TextG n).2.2 e = some s /\ _
   cases hv with
   | mk _ hp hs =>
   have hce := wt_eq (e := e) (by omega)
   have ht := wt_text (e := e) (by omega)
   have hargs := sizX_args (e := e)
   unfold sL12TextB iSourceB
   cases k1 : (e.kind == 1) with
   | true =>
    have := hp.num (eq_of_beq k1)
    have l1 := itoa_len e.n (by omega) (by omega)
    exact ⟨Go.Lib.itoa e.n, by simp only [cond_true, iFormatInt_eq e.n (by omega) (by omega), Option.bind_some], by simp only [cond_true, sFormatInt_eq e.n (by omega) (by omega), Option.bind_some], by omega⟩
   | false =>
   cases k2 : (e.kind == 2) with
   | true =>
    simp only [cond_true, cond_false]
    rw [gdp (by simp; omega), Option.bind_some, gdp (by simp; omega), Option.bind_some]
    exact ⟨_, rfl, rfl, by simp; omega⟩
   | false =>
   cases k3 : (e.kind == 3) with
   | true => exact ⟨e.text, rfl, rfl, by omega⟩
   | false =>
   cases k4 : (e.kind == 4) with
   | true =>
    obtain ⟨s, e1, e1', l1⟩ := ihL e.args (by omega) hs (by omega)
    simp only [cond_true, cond_false, e1, e1', Option.bind_some]
    rw [gdp (by simp; omega), Option.bind_some, gdp (by simp; omega), Option.bind_some]
    exact ⟨_, rfl, rfl, by simp; omega⟩
   | false =>
   cases k5 : (e.kind == 5) with
   | true =>
    obtain ⟨s, e1, e1', l1⟩ := ihL e.args (by omega) hs (by omega)
    simp only [cond_true, cond_false, e1, e1', Option.bind_some]
    rw [gdp (by simp; omega), Option.bind_some, gdp (by simp; omega), Option.bind_some, gdp (by simp; omega), Option.bind_some]
    exact ⟨_, rfl, rfl, by simp; omega⟩
   | false =>
   cases k7 : (e.kind == 7) with
   | true =>
    obtain ⟨a, b, hab⟩ := args_two (hp.two (.inl (eq_of_beq k7)))
    have hcs : wtL e.args = wtE a + wtE b := by rw [hab, wtL_two]
    obtain ⟨s, e1, e1', l1⟩ := ihT a (by have := sizX_arg (x := a) (e := e) (by rw [hab]; simp); omega) (hs a (by rw [hab]; simp)) (by omega)
    obtain ⟨t, e2, e2', l2⟩ := ihT b (by have := sizX_arg (x := b) (e := e) (by rw [hab]; simp); omega) (hs b (by rw [hab]; simp)) (by omega)
    have i0 : idx e.args 0 = some a := by rw [hab]; rfl
    have i1 : idx e.args 1 = some b := by rw [hab]; rfl
    simp only [cond_true, cond_false, i0, i1, reExpr_eq, e1, e1', e2, e2', Option.bind_some]
    rw [gdp (by simp; omega), Option.bind_some, gdp (by simp; omega), Option.bind_some, gdp (by simp; omega), Option.bind_some, gdp (by simp; omega), Option.bind_some, gdp (by simp; omega), Option.bind_some]
    exact ⟨_, rfl, rfl, by simp; omega⟩
   | false =>
   cases k9 : (e.kind == 9) with
   | true =>
    have k8 : (e.kind == 8) = false := by rw [eq_of_beq k9]; rfl
    obtain ⟨a, b, hab⟩ := args_two (hp.two (.inr (eq_of_beq k9)))
    have hcs : wtL e.args = wtE a + wtE b := by rw [hab, wtL_two]
    obtain ⟨s, e1, e1', l1⟩ := ihT a (by have := sizX_arg (x := a) (e := e) (by rw [hab]; simp); omega) (hs a (by rw [hab]; simp)) (by omega)
    obtain ⟨t, e2, e2', l2⟩ := ihT b (by have := sizX_arg (x := b) (e := e) (by rw [hab]; simp); omega) (hs b (by rw [hab]; simp)) (by omega)
    have i0 : idx e.args 0 = some a := by rw [hab]; rfl
    have i1 : idx e.args 1 = some b := by rw [hab]; rfl
    simp only [cond_true, cond_false, k8, i0, i1, reExpr_eq, e1, e1', e2, e2', Option.bind_some]
    rw [gdp (by simp; omega), Option.bind_some, gdp (by simp; omega), Option.bind_some, gdp (by simp; omega), Option.bind_some, gdp (by simp; omega), Option.bind_some, gdp (by simp; omega), Option.bind_some]
    exact ⟨_, rfl, rfl, by simp; omega⟩
   | false =>
   cases k8 : (e.kind == 8) with
   | true =>
    obtain ⟨a, b, c, hab⟩ := args_three (hp.three (eq_of_beq k8))
    have hcs : wtL e.args = wtE a + (wtE b + wtE c) := by rw [hab, wtL_three]
    obtain ⟨s, e1, e1', l1⟩ := ihT a (by have := sizX_arg (x := a) (e := e) (by rw [hab]; simp); omega) (hs a (by rw [hab]; simp)) (by omega)
    obtain ⟨t, e2, e2', l2⟩ := ihT b (by have := sizX_arg (x := b) (e := e) (by rw [hab]; simp); omega) (hs b (by rw [hab]; simp)) (by omega)
    obtain ⟨u, e3, e3', l3⟩ := ihT c (by have := sizX_arg (x := c) (e := e) (by rw [hab]; simp); omega) (hs c (by rw [hab]; simp)) (by omega)
    have i0 : idx e.args 0 = some a := by rw [hab]; rfl
    have i1 : idx e.args 1 = some b := by rw [hab]; rfl
    have i2 : idx e.args 2 = some c := by rw [hab]; rfl
    simp only [cond_true, cond_false, i0, i1, i2, reExpr_eq, e1, e1', e2, e2', e3, e3', Option.bind_some]
    rw [gdp (by simp; omega), Option.bind_some, gdp (by simp; omega), Option.bind_some, gdp (by simp; omega), Option.bind_some, gdp (by simp; omega), Option.bind_some, gdp (by simp; omega), Option.bind_some]
    exact ⟨_, rfl, rfl, by simp; omega⟩
   | false =>
    have hk : e.kind = 6 := by
     have q0 := hp.k0
     have q9 := hp.k9
     have n1 : ¬ e.kind = 1 := by simpa using k1
     have n2 : ¬ e.kind = 2 := by simpa using k2
     have n3 : ¬ e.kind = 3 := by simpa using k3
     have n4 : ¬ e.kind = 4 := by simpa using k4
     have n5 : ¬ e.kind = 5 := by simpa using k5
     have n7 : ¬ e.kind = 7 := by simpa using k7
     have n8 : ¬ e.kind = 8 := by simpa using k8
     have n9 : ¬ e.kind = 9 := by simpa using k9
     omega
    obtain ⟨ha, hn1, hn5⟩ := hp.op hk
    obtain ⟨a, b, hab⟩ := args_two ha
    have hcs : wtL e.args = wtE a + wtE b := by rw [hab, wtL_two]
    have za := sizX_arg (x := a) (e := e) (by rw [hab]; simp)
    have zb := sizX_arg (x := b) (e := e) (by rw [hab]; simp)
    obtain ⟨r, e0, r0, r4⟩ := level_ok e
    have e0' := (level_eq e).trans e0
    obtain ⟨s, e1, f1, l1⟩ := ihA a 2 (by omega) (hs a (by rw [hab]; simp)) (by omega)
    obtain ⟨s', e1', f1', l1'⟩ := ihA a r (by omega) (hs a (by rw [hab]; simp)) (by omega)
    obtain ⟨t, e2, f2, l2⟩ := ihA b (w64 (r + 1)) (by omega) (hs b (by rw [hab]; simp)) (by omega)
    obtain ⟨o, e3, f3, l3⟩ := opSym_ok e.n hn1 hn5
    have i0 : idx e.args 0 = some a := by rw [hab]; rfl
    have i1 : idx e.args 1 = some b := by rw [hab]; rfl
    simp only [cond_false, i0, i1, reExpr_eq, e0, e0', e1, e1', e2, e3, f1, f1', f2, f3, Option.bind_some]
    cases (r == 1) with
    | true =>
     simp only [cond_true]
     rw [gdp (by simp; omega), Option.bind_some, gdp (by simp; omega), Option.bind_some, gdp (by simp; omega), Option.bind_some, gdp (by simp; omega), Option.bind_some]
     exact ⟨_, rfl, rfl, by simp; omega⟩
    | false =>
     simp only [cond_false]
     rw [gdp (by simp; omega), Option.bind_some, gdp (by simp; omega), Option.bind_some, gdp (by simp; omega), Option.bind_some, gdp (by simp; omega), Option.bind_some]
     exact ⟨_, rfl, rfl, by simp; omega⟩
  ·have hxl := wtL_len xs
   have hA : ∀ (g : GExpr -> Option Str), (∀ x, x ∈ xs -> ∃ s, (iSourceG n).1 x = some s /\ g x = some s /\ s.length + 4 <= 200 * wtE x) -> ∃ l : List Str, l.length = xs.length /\ Go.Lib.lens l + 4 * xs.length <= 200 * wtL xs /\ ∀ (i : Nat) (x : GExpr), xs[i]? = some x -> ∃ s : Str, l[i]? = some s /\ (iSourceG n).1 x = some s /\ g x = some s := by
    intro g
    clear hn hv hc hxl
    induction xs with
    | nil => exact fun _ => ⟨[], rfl, by simp [Go.Lib.lens, wtL], fun i x h => by simp at h⟩
    | cons x r ih =>
     intro hx
     obtain ⟨l, h1, h2, h3⟩ := ih (fun y hy => hx y (List.mem_cons_of_mem _ hy))
     obtain ⟨s, q1, q2, q3⟩ := hx x (by simp)
     refine ⟨s :: l, by simp [h1], ?_, fun i y hy => ?_⟩
     ·have e1 : Go.Lib.lens (s :: l) = s.length + Go.Lib.lens l := by simp [Go.Lib.lens]
      have e2 : wtL (x :: r) = wtE x + wtL r := rfl
      rw [e1, e2]
      simp only [List.length_cons]
      omega
     ·cases i with
      | zero => simp at hy; subst hy; exact ⟨s, rfl, q1, q2⟩
      | succ i => simp at hy; simpa using h3 i y hy
   obtain ⟨l, l1, l2, l3⟩ := hA (sL12TextG n).1 fun x hx => ihT x (by have := sizX_mem hx; omega) (hv x hx) (by have := wtL_mem hx; omega)
   have hJ : ([44, 32] : Str).length * l.length + Go.Lib.lens l <= 1000000000 := by simp only [List.length_cons, List.length_nil]; rw [l1]; omega
   have eJi := iJoin_eq l [44, 32] (by omega) hJ
   have eJs := sJoin_eq l [44, 32] (by omega) hJ (by simp)
   have lj := join_len l [44, 32]
   refine ⟨Go.Lib.join l [44, 32], ?_, ?_, by simp only [List.length_cons, List.length_nil] at lj; omega⟩
   ·show iSourcesB (iSourceG n).1 (iSourceG n).2.1 (iSourceG n).2.2 xs = _
    unfold iSourcesB
    have key := list_run (g := fun (x1 : (List Str) × (List GExpr) × Int × Int) =>
     bif (decide (x1.2.2.2 < x1.2.2.1)) then
      (idx x1.2.1 x1.2.2.2).bind fun e2 =>
      ((iSourceG n).1 (reExpr e2)).bind fun r3 =>
      (gd (x1.1.length + ([r3] : List Str).length)).bind fun _ =>
      some (.inl (x1.1 ++ ([r3] : List Str), x1.2.1, x1.2.2.1, w64 (x1.2.2.2 + 1)))
     else
      (
       (iJoin x1.1 [44, 32]).bind fun r4 =>
       some (r4)
      ).bind fun r => some (.inr r)) (fun (s : List Str) (i : Nat) => ((s, xs, (xs.length : Int), (i : Int)) : (List Str) × (List GExpr) × Int × Int)) xs (fun i s => s = l.take i) (fun r => r = Go.Lib.join l [44, 32]) (fun i x s hx hI => .inl ?_) (fun s hI => ?_) [] rfl
    ·obtain ⟨r, h, rfl⟩ := key
     exact h
    ·obtain ⟨t, q1, q2, q3⟩ := l3 i x hx
     subst hI
     have hi := (List.getElem?_eq_some_iff.1 hx).1
     refine ⟨l.take (i + 1), ?_, rfl⟩
     simp only [cnt_in hx, cond_true, idx_nat, hx, Option.bind_some, reExpr_eq, q2, cnt_up hx (by omega)]
     rw [gdp (by simp; omega)]
     obtain ⟨hi2, rfl⟩ := List.getElem?_eq_some_iff.1 q1
     rw [List.take_succ_eq_append_getElem hi2]
     rfl
    ·subst hI
     refine ⟨Go.Lib.join l [44, 32], ?_, rfl⟩
     have e : l.take xs.length = l := by rw [<- l1, List.take_length]
     simp only [cnt_out, cond_false, e, eJi, Option.bind_some]
   ·show sL12ListB (sL12TextG n).1 (sL12TextG n).2.1 (sL12TextG n).2.2 xs = _
    unfold sL12ListB
    have key := list_run (g := fun (x1 : (List GExpr) × (List Str) × Int) =>
     bif (decide (x1.2.2 < (x1.1.length : Int))) then
      (idx x1.1 x1.2.2).bind fun e2 =>
      ((sL12TextG n).1 (reExpr e2)).bind fun r3 =>
      (gd (x1.2.1.length + ([r3] : List Str).length)).bind fun _ =>
      some (.inl (x1.1, x1.2.1 ++ ([r3] : List Str), w64 (x1.2.2 + 1)))
     else
      (
       (sJoin x1.2.1 [44, 32]).bind fun r4 =>
       some (r4)
      ).bind fun r => some (.inr r)) (fun (s : List Str) (i : Nat) => ((xs, s, (i : Int)) : (List GExpr) × (List Str) × Int)) xs (fun i s => s = l.take i) (fun r => r = Go.Lib.join l [44, 32]) (fun i x s hx hI => .inl ?_) (fun s hI => ?_) [] rfl
    ·obtain ⟨r, h, rfl⟩ := key
     exact h
    ·obtain ⟨t, q1, q2, q3⟩ := l3 i x hx
     subst hI
     have hi := (List.getElem?_eq_some_iff.1 hx).1
     refine ⟨l.take (i + 1), ?_, rfl⟩
     simp only [cnt_in hx, cond_true, idx_nat, hx, Option.bind_some, reExpr_eq, q3, cnt_up hx (by omega)]
     rw [gdp (by simp; omega)]
     obtain ⟨hi2, rfl⟩ := List.getElem?_eq_some_iff.1 q1
     rw [List.take_succ_eq_append_getElem hi2]
     rfl
    ·subst hI
     refine ⟨Go.Lib.join l [44, 32], ?_, rfl⟩
     have e : l.take xs.length = l := by rw [<- l1, List.take_length]
     simp only [cnt_out, cond_false, e, eJs, Option.bind_some]
  ·show ∃ s, iEnclosedB (iSourceG n).1 (iSourceG n).2.1 (iSourceG n).2.2 e b = some s /\ sL12AtB (sL12TextG n).1 (sL12TextG n).2.1 (sL12TextG n).2.2 e b = some s /\ _
   unfold sL12AtB iEnclosedB
   obtain ⟨s, e1, f1, l1⟩ := ihT e (by omega) hv hc
   obtain ⟨r, e0, r0, r4⟩ := level_ok e
   have e0' := (level_eq e).trans e0
   simp only [reExpr_eq, e1, f1, e0, e0', Option.bind_some]
   cases decide (r < b) with
   | true =>
    simp only [cond_true]
    rw [gdp (by simp; omega), Option.bind_some, gdp (by simp; omega), Option.bind_some]
    exact ⟨_, rfl, rfl, by simp; omega⟩
   | false => exact ⟨s, rfl, rfl, by omega⟩
theorem format_alike (e : GExpr) (hw : wtE e <= 1048576) : ∃ s, iFormatExpr e = some s /\ sFormatExpr e = some s /\ s.length <= 8000 := by
 obtain ⟨v, e1, e2, h⟩ := valid_alike e hw
 unfold iFormatExpr sFormatExpr
 simp only [reExpr_eq, e1, e2, Option.bind_some]
 cases v with
 | false => exact ⟨[], rfl, rfl, by simp⟩
 | true =>
  obtain ⟨hv, hc⟩ := h rfl
  obtain ⟨s, q1, q2, q3⟩ := (source_alike (siz e + 1)).1 e (Nat.lt_succ_self _) hv (by omega)
  have q1 : iSource e = some s := q1
  have q2 : sL12Text e = some s := q2
  simp only [Bool.not_true, cond_false, q1, q2, Option.bind_some]
  exact ⟨s, rfl, rfl, by omega⟩
end Go.Proofs.YtdlfoecpgaenpaaGreatDoor
