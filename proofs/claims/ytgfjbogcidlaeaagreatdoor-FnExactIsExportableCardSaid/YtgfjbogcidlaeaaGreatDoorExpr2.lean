import Derived.Test.YtgfjbogcidlaeaaGreatDoorTok1
import Derived.Test.YtgfjbogcidlaeaaGreatDoorNames2
import Derived.Test.YtgfjbogcidlaeaaGreatDoorParse1
/- Plain laws: one node, valid on both sides alike. Plain laws: nesting and nodes of expressions alike. Plain laws: expressions that a parser reads: few nodes, short texts; validity is alike on both sides. -/
set_option linter.unusedSimpArgs false
set_option linter.unusedVariables false
namespace Go.Proofs.YtgfjbogcidlaeaaGreatDoor
open Go.Abs Go.Proofs
theorem bif_congr {α : Type} (c : Bool) {a b a' b' : α} (h1 : a = a') (h2 : b = b') : (bif c then a else b) = bif c then a' else b' := by rw [h1, h2]
theorem within_eq (a b c : Int) : iWithin a b c = sL1In a b c := rfl
theorem within_some (a b c : Int) : sL1In a b c = some (decide (a >= b) && decide (a <= c)) := by
 unfold sL1In
 cases decide (a >= b) <;> rfl
theorem argCount_eq (a : Str) : iArgumentCount a = sArgumentCount a := rfl
theorem node_alike (e : GExpr) (hl : e.text.length <= 34359738368) (ht : ∃ v, sIsValidText e.text = some v) (hn : ∃ v, sIsValidName e.text = some v) : iIsNode e = sL10Node e := by
 obtain ⟨v, hv⟩ := ht
 obtain ⟨u, hu⟩ := hn
 unfold iIsNode sL10Node
 simp only [within_eq, within_some, argCount_eq, validText_eq, vName_alike e.text hl, hv, hu, Option.bind_some]
 generalize (e.text == []) = p
 generalize ((e.args.length : Int) == 0) = q0
 generalize ((e.args.length : Int) == 2) = q2
 generalize (decide (e.n >= 0) && decide (e.n <= 1000000000)) = w1
 generalize (decide (e.n >= 1) && decide (e.n <= 5)) = w5
 refine bif_congr _ ?_ (bif_congr _ ?_ (bif_congr _ ?_ (bif_congr _ rfl (bif_congr _ rfl (bif_congr _ ?_ (bif_congr _ ?_ (bif_congr _ ?_ rfl)))))))
 ·cases p <;> cases q0 <;> cases w1 <;> rfl
 ·cases q0 <;> cases v <;> cases (e.n == 0) <;> rfl
 ·cases q0 <;> cases u <;> cases (e.n == 0) <;> rfl
 ·cases p <;> cases q2 <;> cases w5 <;> rfl
 ·cases q2 <;> cases u <;> cases (e.n == 0) <;> rfl
 ·cases q2 <;> cases u <;> cases (e.n == 0) <;> rfl
theorem iter_loopD {X ρ : Type} {f : X -> Option (X ⊕ ρ)} {x : X} {r : ρ} {n : Nat} (hn : iter f n x = some r) : loopD f x = some r := by
 have hh : ∃ n r, iter f n x = some r := ⟨n, r, hn⟩
 unfold loopD
 rw [dif_pos hh]
 exact congrArg some (iter_mono hh.choose_spec.choose_spec hn)
theorem loop_rel {X Y ρ : Type} {f : X -> Option (X ⊕ ρ)} {g : Y -> Option (Y ⊕ ρ)} (P : X -> Y -> Prop)
  (H : ∀ x y, P x y -> (f x = none /\ g y = none) \/ (∃ r, f x = some (.inr r) /\ g y = some (.inr r)) \/ (∃ x' y', P x' y' /\ f x = some (.inl x') /\ g y = some (.inl y')))
  {x : X} {y : Y} (h : P x y) : loopD f x = loopD g y := by
 have hi : ∀ (n : Nat) (x : X) (y : Y), P x y -> iter f n x = iter g n y := by
  intro n
  induction n with
  | zero => intro x y _; rfl
  | succ n ih =>
   intro x y hp
   unfold iter
   rcases H x y hp with ⟨e1, e2⟩ | ⟨r, e1, e2⟩ | ⟨x', y', hp', e1, e2⟩
   ·rw [e1, e2]
   ·rw [e1, e2]
   ·rw [e1, e2]; exact ih x' y' hp'
 cases e : loopD f x with
 | some r =>
  obtain ⟨n, hn⟩ := loopD_iter e
  rw [hi n x y h] at hn
  exact (iter_loopD hn).symm
 | none =>
  cases e2 : loopD g y with
  | none => rfl
  | some r =>
   obtain ⟨n, hn⟩ := loopD_iter e2
   rw [<- hi n x y h] at hn
   rw [iter_loopD hn] at e
   cases e
theorem sL1Max_eq (m r : Int) : sL1Max m r = some (if r > m then r else m) := by
 unfold sL1Max
 by_cases h : m > r
 ·rw [decide_eq_true h, if_neg (by omega)]; rfl
 ·rw [decide_eq_false h]
  by_cases h2 : r > m
  ·rw [if_pos h2]; rfl
  ·rw [if_neg h2]
   have : r = m := by omega
   rw [this]; rfl
theorem nesting_alike : ∀ (n : Nat) (e : GExpr), iNestingOfG n e = sNestingOfG n e := by
 intro n
 induction n with
 | zero => intro e; rfl
 | succ n ih =>
  intro e
  show iNestingOfB (iNestingOfG n) e = sNestingOfB (sNestingOfG n) e
  unfold iNestingOfB sNestingOfB
  refine loop_rel (fun x y => ∃ m i : Int, x = (m, e.args, (e.args.length : Int), i) /\ y = (e.kind, e.n, e.text, e.args, m, i)) ?_ ⟨0, 0, rfl, rfl⟩
  rintro _ _ ⟨m, i, rfl, rfl⟩
  simp only
  cases decide (i < (e.args.length : Int)) with
  | false => exact .inr (.inl ⟨_, rfl, rfl⟩)
  | true =>
   simp only [cond_true]
   cases idx e.args i with
   | none => exact .inl ⟨rfl, rfl⟩
   | some x =>
    simp only [Option.bind_some, ih]
    cases sNestingOfG n (reExpr x) with
    | none => exact .inl ⟨rfl, rfl⟩
    | some r =>
     simp only [Option.bind_some, sL1Max_eq]
     exact .inr (.inr ⟨_, _, ⟨_, _, rfl, rfl⟩, rfl, rfl⟩)
theorem reExpr_id (x : GExpr) : reExpr x = x := by cases x; rfl
theorem idx_mem' {α : Type} {xs : List α} {i : Int} {x : α} (h : idx xs i = some x) : x ∈ xs := by
 unfold idx at h
 split at h
 ·exact List.mem_of_getElem? h
 ·cases h
theorem nodes_alike (P : GExpr -> Prop) (hsub : ∀ e x, P e -> x ∈ e.args -> P x) (hnode : ∀ e, P e -> iIsNode e = sL10Node e) : ∀ (n : Nat) (e : GExpr), P e -> iAreNodesG n e = sL10AllG n e := by
 intro n
 induction n with
 | zero => intro e _; rfl
 | succ n ih =>
  intro e he
  show iAreNodesB (iAreNodesG n) e = sL10AllB (sL10AllG n) e
  unfold iAreNodesB sL10AllB
  refine loop_rel (fun x y => ∃ i : Int, x = (e.kind, e.n, e.text, e.args, e.args, (e.args.length : Int), i) /\ y = (e.kind, e.n, e.text, e.args, i)) ?_ ⟨0, rfl, rfl⟩
  rintro _ _ ⟨i, rfl, rfl⟩
  simp only
  cases decide (i < (e.args.length : Int)) with
  | false =>
   have hn : iIsNode ⟨e.kind, e.n, e.text, e.args⟩ = sL10Node ⟨e.kind, e.n, e.text, e.args⟩ := by
    have := hnode e he
    cases e; exact this
   simp only [cond_false, hn]
   cases sL10Node ⟨e.kind, e.n, e.text, e.args⟩ with
   | none => exact .inl ⟨rfl, rfl⟩
   | some r => exact .inr (.inl ⟨_, rfl, rfl⟩)
  | true =>
   simp only [cond_true]
   cases hx : idx e.args i with
   | none => exact .inl ⟨rfl, rfl⟩
   | some x =>
    simp only [Option.bind_some, reExpr_id, ih x (hsub e x he (idx_mem' hx))]
    cases sL10AllG n x with
    | none => exact .inl ⟨rfl, rfl⟩
    | some r =>
     simp only [Option.bind_some]
     cases r with
     | false => exact .inr (.inl ⟨_, rfl, rfl⟩)
     | true => exact .inr (.inr ⟨_, _, ⟨_, rfl, rfl⟩, rfl, rfl⟩)
theorem wtL_mem {x : GExpr} : ∀ {xs : List GExpr}, x ∈ xs -> wtE x <= wtL xs
 | [], h => by cases h
 | y :: r, h => by
  rcases List.mem_cons.1 h with rfl | h
  ·show _ <= wtE x + wtL r; omega
  ·have := wtL_mem h
   show _ <= wtE y + wtL r; omega
theorem wtE_one (e : GExpr) : 1 + wtL e.args <= wtE e := by
 obtain ⟨k, n, t, a⟩ := e
 show 1 + wtL a <= (if t.length <= 120 then 1 else 18446744073709551616) + wtL a
 split <;> omega
theorem wtE_pos (e : GExpr) : 1 <= wtE e := by have := wtE_one e; omega
theorem wtL_len : ∀ (xs : List GExpr), xs.length <= wtL xs
 | [] => by simp
 | x :: r => by
  have := wtL_len r
  have := wtE_pos x
  show r.length + 1 <= wtE x + wtL r; omega
theorem wt_arg {x e : GExpr} (h : x ∈ e.args) : wtE x + 1 <= wtE e := by
 have := wtL_mem h
 have := wtE_one e
 omega
theorem wt_text {e : GExpr} (h : wtE e <= 1048576) : e.text.length <= 120 := by
 obtain ⟨k, n, t, a⟩ := e
 have h : (if t.length <= 120 then 1 else 18446744073709551616) + wtL a <= 1048576 := h
 show t.length <= 120
 split at h
 ·assumption
 ·omega
theorem wt_eq {e : GExpr} (h : wtE e <= 1048576) : wtE e = 1 + wtL e.args := by
 have := wt_text h
 obtain ⟨k, n, t, a⟩ := e
 exact wtE_short this
theorem wt_len {e : GExpr} : e.args.length + 1 <= wtE e := by
 have := wtE_one e
 have := wtL_len e.args
 omega
theorem sizX_args {e : GExpr} : siz e.args < siz e := by
 cases e; simp only [siz]; rw [GExpr.mk.sizeOf_spec]; omega
theorem sizX_mem {x : GExpr} {xs : List GExpr} (h : x ∈ xs) : siz x + 1 <= siz xs := by
 have := List.sizeOf_lt_of_mem h
 simp only [siz]; omega
theorem sizX_arg {x e : GExpr} (h : x ∈ e.args) : siz x + 2 <= siz e := by
 have := sizX_mem h
 have := sizX_args (e := e)
 omega
theorem wtL_take {xs : List GExpr} {i : Nat} {x : GExpr} (h : xs[i]? = some x) : wtL (xs.take (i + 1)) = wtL (xs.take i) + wtE x := by
 obtain ⟨hi, rfl⟩ := List.getElem?_eq_some_iff.1 h
 rw [List.take_succ_eq_append_getElem hi, wtL_append, wtL_one]
theorem wtL_take_le (xs : List GExpr) (i : Nat) : wtL (xs.take i) <= wtL xs := by
 have h : wtL (xs.take i) + wtL (xs.drop i) = wtL xs := by rw [<- wtL_append, List.take_append_drop]
 omega
theorem list_run {α X ρ σ : Type} {g : X -> Option (X ⊕ ρ)} (pk : σ -> Nat -> X) (xs : List α) (I : Nat -> σ -> Prop) (R : ρ -> Prop)
  (hs : ∀ i x s, xs[i]? = some x -> I i s -> (∃ s', g (pk s i) = some (.inl (pk s' (i + 1))) /\ I (i + 1) s') \/ ∃ r, g (pk s i) = some (.inr r) /\ R r)
  (hf : ∀ s, I xs.length s -> ∃ r, g (pk s xs.length) = some (.inr r) /\ R r) (s : σ) (h0 : I 0 s) : ∃ r, loopD g (pk s 0) = some r /\ R r := by
 have key : ∀ (k i : Nat) (s : σ), xs.length = i + k -> I i s -> ∃ r, loopD g (pk s i) = some r /\ R r := by
  intro k
  induction k with
  | zero =>
   intro i s hi hI
   have : i = xs.length := by omega
   subst this
   obtain ⟨r, e, hR⟩ := hf s hI
   exact ⟨r, by rw [loopD_eq, e], hR⟩
  | succ k ih =>
   intro i s hi hI
   have hlt : i < xs.length := by omega
   rcases hs i _ s (List.getElem?_eq_getElem hlt) hI with ⟨s', e, hI'⟩ | ⟨r, e, hR⟩
   ·obtain ⟨r, e', hR⟩ := ih (i + 1) s' (by omega) hI'
    exact ⟨r, by rw [loopD_eq, e]; exact e', hR⟩
   ·exact ⟨r, by rw [loopD_eq, e], hR⟩
 exact key xs.length 0 s (by omega) h0
theorem cnt_in {α : Type} {xs : List α} {i : Nat} {x : α} (h : xs[i]? = some x) : decide ((i : Int) < (xs.length : Int)) = true := by
 have := (List.getElem?_eq_some_iff.1 h).1
 simp; omega
theorem cnt_out {α : Type} (xs : List α) : decide ((xs.length : Int) < (xs.length : Int)) = false := by simp
theorem cnt_up {α : Type} {xs : List α} {i : Nat} {x : α} (h : xs[i]? = some x) (hl : xs.length <= 34359738368) : w64 ((i : Int) + 1) = ((i + 1 : Nat) : Int) := by
 have := (List.getElem?_eq_some_iff.1 h).1
 rw [w64_id (by omega) (by omega)]; omega
theorem nodeCount_wt : ∀ (n : Nat) (e : GExpr), siz e < n -> wtE e <= 1048576 -> iNodeCountG n e = some (wtE e : Int)
 | 0, e, h, _ => absurd h (Nat.not_lt_zero _)
 | n + 1, e, hn, hw => by
  have ih := nodeCount_wt n
  have hl := wt_len (e := e)
  show iNodeCountB (iNodeCountG n) e = _
  unfold iNodeCountB
  have key := list_run (fun (s : Unit) (i : Nat) => ((((1 + wtL (e.args.take i) : Nat) : Int), e.args, (e.args.length : Int), (i : Int)) : Int × (List GExpr) × Int × Int)) e.args (fun _ _ => True) (fun r => r = (wtE e : Int)) (g := fun (x1 : Int × (List GExpr) × Int × Int) =>
   bif (decide (x1.2.2.2 < x1.2.2.1)) then
    (idx x1.2.1 x1.2.2.2).bind fun e2 =>
    (iNodeCountG n (reExpr e2)).bind fun r3 =>
    some (.inl (w64 (x1.1 + r3), x1.2.1, x1.2.2.1, w64 (x1.2.2.2 + 1)))
   else
    some (.inr (x1.1))) (fun i x s hx _ => .inl ⟨(), by
   have hm := List.mem_of_getElem? hx
   have h1 := wt_arg hm
   have h2 := wtL_take hx
   have h3 := wtL_take_le e.args (i + 1)
   have h4 := wtE_one e
   simp only [cnt_in hx, cond_true, idx_nat, hx, Option.bind_some, reExpr_eq, ih x (by have := sizX_arg hm; omega) (by omega), cnt_up hx (by omega), h2]
   rw [w64_id (by omega) (by omega)]
   congr 4
   omega, trivial⟩) (fun s _ => ⟨_, by simp only [cnt_out, cond_false]; rfl, by rw [List.take_length, wt_eq hw]⟩) () trivial
  obtain ⟨r, e1, rfl⟩ := key
  exact e1
theorem left_wt : ∀ (n : Nat) (e : GExpr) (b : Int), siz e < n -> wtE e <= 1048576 -> 0 <= b -> b <= 1048576 ->
  ∃ r, sL10LeftG n e b = some r /\ (0 <= b - wtE e -> r = b - wtE e) /\ (b - wtE e < 0 -> r = -1)
 | 0, e, b, h, _, _, _ => absurd h (Nat.not_lt_zero _)
 | n + 1, e, b, hn, hw, h0, h1 => by
  have ih := left_wt n
  have hl := wt_len (e := e)
  have hwe := wt_eq hw
  show ∃ r, sL10LeftB (sL10LeftG n) e b = some r /\ _
  unfold sL10LeftB
  rw [w64_id (n := b - 1) (by omega) (by omega)]
  refine list_run (fun (s : Int) (i : Nat) => ((s, e.kind, e.n, e.text, e.args, (i : Int)) : Int × Int × Int × Str × (List GExpr) × Int)) e.args
   (fun i s => (0 <= b - 1 - wtL (e.args.take i) -> s = b - 1 - wtL (e.args.take i)) /\ (b - 1 - wtL (e.args.take i) < 0 -> s = -1)) _ (fun i x s hx hI => ?_) (fun s hI => ?_) (b - 1) ⟨fun _ => by simp [wtL], fun h => by simp [wtL] at h; omega⟩
  ·obtain ⟨i1, i2⟩ := hI
   have hm := List.mem_of_getElem? hx
   have h1 := wt_arg hm
   have h2 := wtL_take hx
   have h3 := wtL_take_le e.args (i + 1)
   by_cases hs : s >= 0
   ·obtain ⟨r, e1, r1, r2⟩ := ih x s (by have := sizX_arg hm; omega) (by omega) hs (by
     by_cases hb : 0 <= b - 1 - wtL (e.args.take i)
     ·have := i1 hb; omega
     ·have := i2 (by omega); omega)
    have hs' : s = b - 1 - wtL (e.args.take i) := by
     by_cases hb : 0 <= b - 1 - wtL (e.args.take i)
     ·exact i1 hb
     ·have := i2 (by omega); omega
    refine .inl ⟨r, ?_, fun hr => ?_, fun hr => ?_⟩
    ·simp only [cnt_in hx, cond_true, decide_eq_true hs, idx_nat, hx, Option.bind_some, reExpr_eq, e1, cnt_up hx (by omega)]
    ·rw [h2] at hr ⊢
     rw [r1 (by omega)]; omega
    ·rw [h2] at hr
     exact r2 (by omega)
   ·refine .inr ⟨s, ?_, fun h => ?_, fun h => ?_⟩
    ·simp only [cnt_in hx, cond_true, decide_eq_false hs, cond_false]
    ·have := wtL_take_le e.args i
     have := i1 (by omega)
     omega
    ·have := i1
     by_cases hb : 0 <= b - 1 - wtL (e.args.take i)
     ·have := i1 hb; omega
     ·exact i2 (by omega)
  ·obtain ⟨i1, i2⟩ := hI
   rw [List.take_length] at i1 i2
   exact ⟨s, by simp only [cnt_out, cond_false], fun h => by rw [i1 (by omega)]; omega, fun h => i2 (by omega)⟩
theorem nesting_ok : ∀ (n : Nat) (e : GExpr), siz e < n -> wtE e <= 1048576 -> ∃ r, sNestingOfG n e = some r /\ True
 | 0, e, h, _ => absurd h (Nat.not_lt_zero _)
 | n + 1, e, hn, hf => by
  have ih := nesting_ok n
  have hl := wt_len (e := e)
  show ∃ r, sNestingOfB (sNestingOfG n) e = some r /\ _
  unfold sNestingOfB
  refine list_run (fun (s : Int) (i : Nat) => ((e.kind, e.n, e.text, e.args, s, (i : Int)) : Int × Int × Str × (List GExpr) × Int × Int)) e.args (fun _ _ => True) _ (fun i x s hx hI => ?_) (fun s hI => ?_) 0 trivial
  ·have hm := List.mem_of_getElem? hx
   obtain ⟨r, e1, _⟩ := ih x (by have := sizX_arg hm; omega) (by have := wt_arg hm; omega)
   refine .inl ⟨if r > s then r else s, ?_, trivial⟩
   simp only [cnt_in hx, cond_true, idx_nat, hx, Option.bind_some, reExpr_eq, e1, sL1Max_eq, cnt_up hx (by omega)]
  ·exact ⟨_, by simp only [cnt_out, cond_false]; rfl, trivial⟩
theorem argCount_ok (a : Str) : ∃ r, sArgumentCount a = some r /\ r <= 4 /\ (0 <= r -> a.length <= 6) := by
 unfold sArgumentCount
 have go : ∀ (w : Str) (k : Int) (z : Option Int), w.length <= 6 -> k <= 4 -> (∃ r, z = some r /\ r <= 4 /\ (0 <= r -> a.length <= 6)) -> ∃ r, (bif (a == w) then some k else z) = some r /\ r <= 4 /\ (0 <= r -> a.length <= 6) := by
  intro w k z hw hk hz
  cases h : (a == w) with
  | true =>
   have e := eq_of_beq h
   exact ⟨k, rfl, hk, fun _ => by rw [e]; exact hw⟩
  | false => exact hz
 repeat refine go _ _ _ (by decide) (by decide) ?_
 exact ⟨-1, rfl, by decide, fun h => by omega⟩
structure NodeX (e : GExpr) : Prop where
 k0 : 1 <= e.kind
 k9 : e.kind <= 9
 num : e.kind = 1 -> 0 <= e.n /\ e.n <= 1000000000
 call : e.kind = 5 -> e.args.length <= 4
 list : e.kind = 4 -> e.args.length <= 8
 op : e.kind = 6 -> e.args.length = 2 /\ 1 <= e.n /\ e.n <= 5
 two : e.kind = 7 \/ e.kind = 9 -> e.args.length = 2
 three : e.kind = 8 -> e.args.length = 3
 leaf : e.kind = 1 \/ e.kind = 2 \/ e.kind = 3 -> e.args = []
inductive ValidX : GExpr -> Prop
 | mk (e : GExpr) (h : NodeX e) (hs : ∀ x, x ∈ e.args -> ValidX x) : ValidX e
theorem node_ok (e : GExpr) (ht : ∃ v, sIsValidText e.text = some v) (hn : ∃ v, sIsValidName e.text = some v) : ∃ v, sL10Node e = some v /\ (v = true -> NodeX e) := by
 have e1 := within_some e.n 0 1000000000
 have e5 := within_some e.n 1 5
 obtain ⟨v2, e2⟩ := ht
 obtain ⟨v3, e3⟩ := hn
 obtain ⟨v4, e4, h4, h4'⟩ := argCount_ok e.text
 have no : ∃ v, (some false : Option Bool) = some v /\ (v = true -> NodeX e) := ⟨false, rfl, fun h => (by cases h)⟩
 have bb : ∀ (c : Bool) (z : Option Bool), (c = true -> ∃ v, z = some v /\ (v = true -> NodeX e)) -> ∃ v, (bif c then z else some false) = some v /\ (v = true -> NodeX e) := by
  intro c z hz
  cases c with
  | true => exact hz rfl
  | false => exact no
 have kk : ∀ (k : Int) (z z' : Option Bool), (e.kind = k -> ∃ v, z = some v /\ (v = true -> NodeX e)) -> (¬ e.kind = k -> ∃ v, z' = some v /\ (v = true -> NodeX e)) -> ∃ v, (bif (e.kind == k) then z else z') = some v /\ (v = true -> NodeX e) := by
  intro k z z' hz hz'
  cases h : (e.kind == k) with
  | true => exact hz (eq_of_beq h)
  | false => exact hz' (by simpa using h)
 have nil : ((e.args.length : Int) == 0) = true -> e.args = [] := fun h => by
  have h := eq_of_beq h
  exact List.length_eq_zero_iff.1 (by omega)
 unfold sL10Node
 simp only [e1, e2, e3, e4, e5, Option.bind_some]
 refine kk 1 _ _ (fun hk => bb _ _ fun a1 => bb _ _ fun a2 => ⟨_, rfl, fun hv => ?_⟩) fun n1 => ?_
 ·have hv : 0 <= e.n /\ e.n <= 1000000000 := by simpa using hv
  exact ⟨by omega, by omega, fun _ => hv, fun h => by omega, fun h => by omega, fun h => by omega, fun h => by omega, fun h => by omega, fun _ => nil a1⟩
 refine kk 2 _ _ (fun hk => bb _ _ fun a1 => bb _ _ fun a2 => ⟨_, rfl, fun hv => ?_⟩) fun n2 => ?_
 ·exact ⟨by omega, by omega, fun h => by omega, fun h => by omega, fun h => by omega, fun h => by omega, fun h => by omega, fun h => by omega, fun _ => nil a1⟩
 refine kk 3 _ _ (fun hk => bb _ _ fun a1 => bb _ _ fun a2 => ⟨_, rfl, fun hv => ?_⟩) fun n3 => ?_
 ·exact ⟨by omega, by omega, fun h => by omega, fun h => by omega, fun h => by omega, fun h => by omega, fun h => by omega, fun h => by omega, fun _ => nil a1⟩
 refine kk 4 _ _ (fun hk => bb _ _ fun a1 => bb _ _ fun a2 => ⟨_, rfl, fun hv => ?_⟩) fun n4 => ?_
 ·have hv := of_decide_eq_true hv
  exact ⟨by omega, by omega, fun h => by omega, fun h => by omega, fun h => by omega, fun h => by omega, fun h => by omega, fun h => by omega, fun h => by omega⟩
 refine kk 5 _ _ (fun hk => bb _ _ fun a1 => ⟨_, rfl, fun hv => ?_⟩) fun n5 => ?_
 ·have hv := eq_of_beq hv
  exact ⟨by omega, by omega, fun h => by omega, fun h => by omega, fun h => by omega, fun h => by omega, fun h => by omega, fun h => by omega, fun h => by omega⟩
 refine kk 6 _ _ (fun hk => bb _ _ fun a1 => bb _ _ fun a2 => ⟨_, rfl, fun hv => ?_⟩) fun n6 => ?_
 ·have a2 := eq_of_beq a2
  have hv : 1 <= e.n /\ e.n <= 5 := by simpa using hv
  exact ⟨by omega, by omega, fun h => by omega, fun h => by omega, fun h => by omega, fun _ => ⟨by omega, hv⟩, fun h => by omega, fun h => by omega, fun h => by omega⟩
 refine kk 7 _ _ (fun hk => bb _ _ fun a1 => bb _ _ fun a2 => ⟨_, rfl, fun hv => ?_⟩) fun n7 => ?_
 ·have a2 := eq_of_beq a2
  exact ⟨by omega, by omega, fun h => by omega, fun h => by omega, fun h => by omega, fun h => by omega, fun _ => by omega, fun h => by omega, fun h => by omega⟩
 refine kk 9 _ _ (fun hk => bb _ _ fun a1 => bb _ _ fun a2 => ⟨_, rfl, fun hv => ?_⟩) fun n9 => ?_
 ·have a2 := eq_of_beq a2
  exact ⟨by omega, by omega, fun h => by omega, fun h => by omega, fun h => by omega, fun h => by omega, fun _ => by omega, fun h => by omega, fun h => by omega⟩
 refine kk 8 _ _ (fun hk => bb _ _ fun a1 => bb _ _ fun a2 => ⟨_, rfl, fun hv => ?_⟩) fun n8 => no
 ·have hv := eq_of_beq hv
  exact ⟨by omega, by omega, fun h => by omega, fun h => by omega, fun h => by omega, fun h => by omega, fun h => by omega, fun _ => by omega, fun h => by omega⟩
theorem text_total (e : GExpr) (hw : wtE e <= 1048576) : (∃ v, sIsValidText e.text = some v) /\ ∃ v, sIsValidName e.text = some v := by
 have ht := wt_text hw
 refine ⟨?_, ?_⟩
 ·obtain ⟨v, hv⟩ := validText_ok e.text ht
  exact ⟨v, by rw [<- validText_eq]; exact hv⟩
 ·exact ⟨_, sValid_eq e.text ht⟩
theorem all_ok : ∀ (n : Nat) (e : GExpr), siz e < n -> wtE e <= 1048576 -> ∃ v, sL10AllG n e = some v /\ (v = true -> ValidX e)
 | 0, e, h, _ => absurd h (Nat.not_lt_zero _)
 | n + 1, e, hn, hw => by
  have ih := all_ok n
  have hl := wt_len (e := e)
  show ∃ v, sL10AllB (sL10AllG n) e = some v /\ _
  unfold sL10AllB
  refine list_run (fun (_ : Unit) (i : Nat) => ((e.kind, e.n, e.text, e.args, (i : Int)) : Int × Int × Str × (List GExpr) × Int)) e.args (fun i _ => ∀ j x, e.args[j]? = some x -> j < i -> ValidX x) _ (fun i x s hx hI => ?_) (fun s hI => ?_) () (fun j x _ hj => absurd hj (Nat.not_lt_zero _))
  ·have hm := List.mem_of_getElem? hx
   obtain ⟨v, e1, h1⟩ := ih x (by have := sizX_arg hm; omega) (by have := wt_arg hm; omega)
   simp only [cnt_in hx, cond_true, idx_nat, hx, Option.bind_some, reExpr_eq, e1, cnt_up hx (by omega)]
   cases v with
   | false => exact .inr ⟨false, rfl, fun h => (by cases h)⟩
   | true =>
    refine .inl ⟨(), rfl, fun j y hy hj => ?_⟩
    by_cases hji : j = i
    ·subst hji
     rw [hx] at hy
     cases hy
     exact h1 rfl
    ·exact hI j y hy (by omega)
  ·obtain ⟨v, e1, h1⟩ := node_ok e (text_total e hw).1 (text_total e hw).2
   have eta : GExpr.mk e.kind e.n e.text e.args = e := by cases e; rfl
   refine ⟨v, by simp only [cnt_out, cond_false, eta, e1, Option.bind_some], fun hv => .mk e (h1 hv) fun x hx => ?_⟩
   obtain ⟨j, hj⟩ := List.mem_iff_getElem?.1 hx
   exact hI j x hj (List.getElem?_eq_some_iff.1 hj).1
theorem nodes_same (e : GExpr) (hw : wtE e <= 1048576) : iAreNodes e = sL10All e :=
 nodes_alike (fun e => wtE e <= 1048576) (fun e x h hx => by have := wt_arg hx; omega) (fun e h => node_alike e (by have := wt_text h; omega) (text_total e h).1 (text_total e h).2) _ e hw
theorem valid_alike (e : GExpr) (hw : wtE e <= 1048576) : ∃ v, iIsValidExpr e = some v /\ sIsValidExpr e = some v /\ (v = true -> ValidX e /\ wtE e <= 40) := by
 have e1 : iNodeCount e = some (wtE e : Int) := nodeCount_wt _ e (Nat.lt_succ_self _) hw
 obtain ⟨r, e2, r1, r2⟩ := left_wt _ e 40 (Nat.lt_succ_self _) hw (by omega) (by omega)
 have e2 : sL10Left e 40 = some r := e2
 obtain ⟨m, e3, _⟩ := nesting_ok _ e (Nat.lt_succ_self _) hw
 have e3 : sNestingOf e = some m := e3
 have e4 : iNestingOf e = some m := (nesting_alike _ e).trans e3
 obtain ⟨v, e5, h5⟩ := all_ok _ e (Nat.lt_succ_self _) hw
 have e5 : sL10All e = some v := e5
 have e6 : iAreNodes e = some v := (nodes_same e hw).trans e5
 unfold iIsValidExpr sIsValidExpr
 simp only [reExpr_eq, e1, e2, e3, e4, e5, e6, Option.bind_some]
 have hd : decide ((wtE e : Int) <= 40) = decide (r >= 0) := by
  by_cases h : (wtE e : Int) <= 40
  ·have := r1 (by omega)
   rw [decide_eq_true h, decide_eq_true (by omega)]
  ·have := r2 (by omega)
   rw [decide_eq_false h, decide_eq_false (by omega)]
 rw [<- hd]
 by_cases h : (wtE e : Int) <= 40
 ·rw [decide_eq_true h]
  simp only [cond_true]
  cases decide (m <= 8) with
  | true => exact ⟨v, rfl, rfl, fun hv => ⟨h5 hv, by omega⟩⟩
  | false => exact ⟨false, rfl, rfl, fun h => (by cases h)⟩
 ·rw [decide_eq_false h]
  exact ⟨false, rfl, rfl, fun h => (by cases h)⟩
theorem parse_alike (a : Str) : ∃ (e : GExpr) (p : Int), iParseExpr a = some (e, p) /\ sParseExpr a = some (e, p) /\ (p < 0 -> ValidX e /\ wtE e <= 40) := by
 obtain ⟨⟨toks, t⟩, hok, hi, hs⟩ := tokenize_alike a
 obtain ⟨e, p, h1, h2, h3⟩ := parse_join a hi hs hok (fun e he => by
  obtain ⟨v, q1, q2, _⟩ := valid_alike e (by omega)
  exact ⟨v, q1, q2⟩)
 refine ⟨e, p, h1, h2, fun hp => ?_⟩
 obtain ⟨hv, hw⟩ := h3 hp
 obtain ⟨v, q1, _, q3⟩ := valid_alike e (by omega)
 rw [hv] at q1
 cases q1
 exact q3 rfl
end Go.Proofs.YtgfjbogcidlaeaaGreatDoor
