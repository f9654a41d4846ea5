import Derived.Test.YtgfjbogcidlaeaaGreatDoorTok1
import Derived.Test.YtgfjbogcidlaeaaGreatDoorNames2
import Derived.Test.YtgfjbogcidlaeaaGreatDoorParse1
/- Plain laws: one node, valid on both sides alike. Plain laws: nesting and nodes of expressions alike. Plain laws: expressions that a parser reads: few nodes, short texts; validity is alike on both sides. -/
set_option linter.unusedSimpArgs false
set_option linter.unusedVariables false
namespace Go.Proofs.YtgfjbogcidlaeaaGreatDoor
open Go.Abs Go.Proofs
theorem kK {α : Type} (c : Bool) {a b a' b' : α} (h1 : a = a') (h2 : b = b') : (bif c then a else b) = bif c then a' else b' := by rw [h1, h2]
theorem L8 (a b c : Int) : jh a b c = qg a b c := rfl
theorem iQ (a b c : Int) : qg a b c = some (decide (a >= b) && decide (a <= c)) := by
 unfold qg
 cases decide (a >= b) <;> rfl
theorem TI (a : Str) : dW a = dw a := rfl
theorem UK (e : af) (hl : e.text.length <= 34359738368) (ht : ∃ v, dS e.text = some v) (hn : ∃ v, bU e.text = some v) : yA e = kP e := by
 obtain ⟨v, hv⟩ := ht
 obtain ⟨u, hu⟩ := hn
 unfold yA kP
 simp only [L8, iQ, TI, AA, vS e.text hl, hv, hu, zA]
 generalize (e.text == []) = p
 generalize ((e.args.length : Int) == 0) = q0
 generalize ((e.args.length : Int) == 2) = q2
 generalize (decide (e.n >= 0) && decide (e.n <= 1000000000)) = w1
 generalize (decide (e.n >= 1) && decide (e.n <= 5)) = w5
 refine kK _ ?_ (kK _ ?_ (kK _ ?_ (kK _ rfl (kK _ rfl (kK _ ?_ (kK _ ?_ (kK _ ?_ rfl)))))))
 ·cases p <;> cases q0 <;> cases w1 <;> rfl
 ·cases q0 <;> cases v <;> cases (e.n == 0) <;> rfl
 ·cases q0 <;> cases u <;> cases (e.n == 0) <;> rfl
 ·cases p <;> cases q2 <;> cases w5 <;> rfl
 ·cases q2 <;> cases u <;> cases (e.n == 0) <;> rfl
 ·cases q2 <;> cases u <;> cases (e.n == 0) <;> rfl
theorem Jj {X ρ : Type} {f : X -> Option (X ⊕ ρ)} {x : X} {r : ρ} {n : Nat} (hn : iter f n x = some r) : ah f x = some r := by
 have hh : ∃ n r, iter f n x = some r := ⟨n, r, hn⟩
 unfold ah
 rw [dif_pos hh]
 exact congrArg some (DI hh.choose_spec.choose_spec hn)
theorem Ru {X Y ρ : Type} {f : X -> Option (X ⊕ ρ)} {g : Y -> Option (Y ⊕ ρ)} (P : X -> Y -> Prop)
  (H : ∀ x y, P x y -> (f x = none /\ g y = none) \/ (∃ r, f x = some (.inr r) /\ g y = some (.inr r)) \/ (∃ x' y', P x' y' /\ f x = some (.inl x') /\ g y = some (.inl y')))
  {x : X} {y : Y} (h : P x y) : ah f x = ah g y := by
 have hi : ∀ (n : Nat) (x : X) (y : Y), P x y -> iter f n x = iter g n y := by
  intro n
  induction n with
  | zero => intro x y _; rfl
  | succ n ih =>
   intro x y hp
   unfold iter
   rcases H x y hp with ⟨e1, e2⟩ | ⟨r, e1, e2⟩ | ⟨x', y', hp', e1, e2⟩
   ·rw [e1, e2]
   ·rw [e1, e2]
   ·rw [e1, e2]; exact ih x' y' hp'
 cases e : ah f x with
 | some r =>
  obtain ⟨n, hn⟩ := lJ e
  rw [hi n x y h] at hn
  exact (Jj hn).symm
 | none =>
  cases e2 : ah g y with
  | none => rfl
  | some r =>
   obtain ⟨n, hn⟩ := lJ e2
   rw [<- hi n x y h] at hn
   rw [Jj hn] at e
   cases e
theorem ML (m r : Int) : OB m r = some (if r > m then r else m) := by
 unfold OB
 by_cases h : m > r
 ·rw [decide_eq_true h, if_neg (by omega)]; rfl
 ·rw [decide_eq_false h]
  by_cases h2 : r > m
  ·rw [if_pos h2]; rfl
  ·rw [if_neg h2]
   have : r = m := by omega
   rw [this]; rfl
theorem KW : ∀ (n : Nat) (e : af), mZ n e = iR n e := by
 intro n
 induction n with
 | zero => intro e; rfl
 | succ n ih =>
  intro e
  show xg (mZ n) e = mM (iR n) e
  unfold xg mM
  refine Ru (fun x y => ∃ m i : Int, x = (m, e.args, (e.args.length : Int), i) /\ y = (e.kind, e.n, e.text, e.args, m, i)) ?_ ⟨0, 0, rfl, rfl⟩
  rintro _ _ ⟨m, i, rfl, rfl⟩
  simp only
  cases decide (i < (e.args.length : Int)) with
  | false => exact .inr (.inl ⟨_, rfl, rfl⟩)
  | true =>
   simp only [cond_true]
   cases idx e.args i with
   | none => exact .inl ⟨rfl, rfl⟩
   | some x =>
    simp only [zA, ih]
    cases iR n (aj x) with
    | none => exact .inl ⟨rfl, rfl⟩
    | some r =>
     simp only [zA, ML]
     exact .inr (.inr ⟨_, _, ⟨_, _, rfl, rfl⟩, rfl, rfl⟩)
theorem Xx (x : af) : aj x = x := by cases x; rfl
theorem ZO {α : Type} {xs : List α} {i : Int} {x : α} (h : idx xs i = some x) : x ∈ xs := by
 unfold idx at h
 split at h
 ·exact zG h
 ·cases h
theorem Rl (P : af -> Prop) (hsub : ∀ e x, P e -> x ∈ e.args -> P x) (hnode : ∀ e, P e -> yA e = kP e) : ∀ (n : Nat) (e : af), P e -> pI n e = mO n e := by
 intro n
 induction n with
 | zero => intro e _; rfl
 | succ n ih =>
  intro e he
  show Aj (pI n) e = wG (mO n) e
  unfold Aj wG
  refine Ru (fun x y => ∃ i : Int, x = (e.kind, e.n, e.text, e.args, e.args, (e.args.length : Int), i) /\ y = (e.kind, e.n, e.text, e.args, i)) ?_ ⟨0, rfl, rfl⟩
  rintro _ _ ⟨i, rfl, rfl⟩
  simp only
  cases decide (i < (e.args.length : Int)) with
  | false =>
   have hn : yA ⟨e.kind, e.n, e.text, e.args⟩ = kP ⟨e.kind, e.n, e.text, e.args⟩ := by
    have := hnode e he
    cases e; exact this
   simp only [cond_false, hn]
   cases kP ⟨e.kind, e.n, e.text, e.args⟩ with
   | none => exact .inl ⟨rfl, rfl⟩
   | some r => exact .inr (.inl ⟨_, rfl, rfl⟩)
  | true =>
   simp only [cond_true]
   cases hx : idx e.args i with
   | none => exact .inl ⟨rfl, rfl⟩
   | some x =>
    simp only [zA, Xx, ih x (hsub e x he (ZO hx))]
    cases mO n x with
    | none => exact .inl ⟨rfl, rfl⟩
    | some r =>
     simp only [zA]
     cases r with
     | false => exact .inr (.inl ⟨_, rfl, rfl⟩)
     | true => exact .inr (.inr ⟨_, _, ⟨_, rfl, rfl⟩, rfl, rfl⟩)
theorem Vw {x : af} : ∀ {xs : List af}, x ∈ xs -> wtE x <= wtL xs
 | [], h => by cases h
 | y :: r, h => by
  rcases List.mem_cons.1 h with rfl | h
  ·show _ <= wtE x + wtL r; omega
  ·have := Vw h
   show _ <= wtE y + wtL r; omega
theorem xI (e : af) : 1 + wtL e.args <= wtE e := by
 obtain ⟨k, n, t, a⟩ := e
 show 1 + wtL a <= (if t.length <= 120 then 1 else 18446744073709551616) + wtL a
 split <;> omega
theorem Vy (e : af) : 1 <= wtE e := by have := xI e; omega
theorem Vx : ∀ (xs : List af), xs.length <= wtL xs
 | [] => by simp
 | x :: r => by
  have := Vx r
  have := Vy x
  show r.length + 1 <= wtE x + wtL r; omega
theorem zi {x e : af} (h : x ∈ e.args) : wtE x + 1 <= wtE e := by
 have := Vw h
 have := xI e
 omega
theorem NM {e : af} (h : wtE e <= 1048576) : e.text.length <= 120 := by
 obtain ⟨k, n, t, a⟩ := e
 have h : (if t.length <= 120 then 1 else 18446744073709551616) + wtL a <= 1048576 := h
 show t.length <= 120
 split at h
 ·assumption
 ·omega
theorem ab8 {e : af} (h : wtE e <= 1048576) : wtE e = 1 + wtL e.args := by
 have := NM h
 obtain ⟨k, n, t, a⟩ := e
 exact qN this
theorem CV {e : af} : e.args.length + 1 <= wtE e := by
 have := xI e
 have := Vx e.args
 omega
theorem WW {e : af} : siz e.args < siz e := by
 cases e; simp only [siz]; rw [af.mk.sizeOf_spec]; omega
theorem YE {x : af} {xs : List af} (h : x ∈ xs) : siz x + 1 <= siz xs := by
 have := List.sizeOf_lt_of_mem h
 simp only [siz]; omega
theorem qP {x e : af} (h : x ∈ e.args) : siz x + 2 <= siz e := by
 have := YE h
 have := WW (e := e)
 omega
theorem Gj {xs : List af} {i : Nat} {x : af} (h : xs[i]? = some x) : wtL (xs.take (i + 1)) = wtL (xs.take i) + wtE x := by
 obtain ⟨hi, rfl⟩ := zC.1 h
 rw [List.take_succ_eq_append_getElem hi, sS, NP]
theorem pY (xs : List af) (i : Nat) : wtL (xs.take i) <= wtL xs := by
 have h : wtL (xs.take i) + wtL (xs.drop i) = wtL xs := by rw [<- sS, List.take_append_drop]
 omega
theorem bH {α X ρ σ : Type} {g : X -> Option (X ⊕ ρ)} (pk : σ -> Nat -> X) (xs : List α) (I : Nat -> σ -> Prop) (R : ρ -> Prop)
  (hs : ∀ i x s, xs[i]? = some x -> I i s -> (∃ s', g (pk s i) = some (.inl (pk s' (i + 1))) /\ I (i + 1) s') \/ ∃ r, g (pk s i) = some (.inr r) /\ R r)
  (hf : ∀ s, I xs.length s -> ∃ r, g (pk s xs.length) = some (.inr r) /\ R r) (s : σ) (h0 : I 0 s) : ∃ r, ah g (pk s 0) = some r /\ R r := by
 have key : ∀ (k i : Nat) (s : σ), xs.length = i + k -> I i s -> ∃ r, ah g (pk s i) = some r /\ R r := by
  intro k
  induction k with
  | zero =>
   intro i s hi hI
   have : i = xs.length := by omega
   subst this
   obtain ⟨r, e, hR⟩ := hf s hI
   exact ⟨r, by rw [aH, e], hR⟩
  | succ k ih =>
   intro i s hi hI
   have hlt : i < xs.length := by omega
   rcases hs i _ s (zF hlt) hI with ⟨s', e, hI'⟩ | ⟨r, e, hR⟩
   ·obtain ⟨r, e', hR⟩ := ih (i + 1) s' (by omega) hI'
    exact ⟨r, by rw [aH, e]; exact e', hR⟩
   ·exact ⟨r, by rw [aH, e], hR⟩
 exact key xs.length 0 s (by omega) h0
theorem bK {α : Type} {xs : List α} {i : Nat} {x : α} (h : xs[i]? = some x) : decide ((i : Int) < (xs.length : Int)) = true := by
 have := (zC.1 h).1
 simp; omega
theorem bC {α : Type} (xs : List α) : decide ((xs.length : Int) < (xs.length : Int)) = false := by simp
theorem bI {α : Type} {xs : List α} {i : Nat} {x : α} (h : xs[i]? = some x) (hl : xs.length <= 34359738368) : w64 ((i : Int) + 1) = ((i + 1 : Nat) : Int) := by
 have := (zC.1 h).1
 rw [bG (by omega) (by omega)]; omega
theorem BG : ∀ (n : Nat) (e : af), siz e < n -> wtE e <= 1048576 -> kH n e = some (wtE e : Int)
 | 0, e, h, _ => absurd h (Nat.not_lt_zero _)
 | n + 1, e, hn, hw => by
  have ih := BG n
  have hl := CV (e := e)
  show wY (kH n) e = _
  unfold wY
  have key := bH (fun (s : Unit) (i : Nat) => ((((1 + wtL (e.args.take i) : Nat) : Int), e.args, (e.args.length : Int), (i : Int)) : Int × (List af) × Int × Int)) e.args (fun _ _ => True) (fun r => r = (wtE e : Int)) (g := fun (x1 : Int × (List af) × Int × Int) =>
   bif (decide (x1.2.2.2 < x1.2.2.1)) then
    (idx x1.2.1 x1.2.2.2).bind fun e2 =>
    (kH n (aj e2)).bind fun r3 =>
    some (.inl (w64 (x1.1 + r3), x1.2.1, x1.2.2.1, w64 (x1.2.2.2 + 1)))
   else
    some (.inr (x1.1))) (fun i x s hx _ => .inl ⟨(), by
   have hm := zG hx
   have h1 := zi hm
   have h2 := Gj hx
   have h3 := pY e.args (i + 1)
   have h4 := xI e
   simp only [bK hx, cond_true, aB, hx, zA, bF, ih x (by have := qP hm; omega) (by omega), bI hx (by omega), h2]
   rw [bG (by omega) (by omega)]
   congr 4
   omega, trivial⟩) (fun s _ => ⟨_, by simp only [bC, cond_false]; rfl, by rw [List.take_length, ab8 hw]⟩) () trivial
  obtain ⟨r, e1, rfl⟩ := key
  exact e1
theorem V8 : ∀ (n : Nat) (e : af) (b : Int), siz e < n -> wtE e <= 1048576 -> 0 <= b -> b <= 1048576 ->
  ∃ r, qY n e b = some r /\ (0 <= b - wtE e -> r = b - wtE e) /\ (b - wtE e < 0 -> r = -1)
 | 0, e, b, h, _, _, _ => absurd h (Nat.not_lt_zero _)
 | n + 1, e, b, hn, hw, h0, h1 => by
  have ih := V8 n
  have hl := CV (e := e)
  have hwe := ab8 hw
  show ∃ r, Dp (qY n) e b = some r /\ _
  unfold Dp
  rw [bG (n := b - 1) (by omega) (by omega)]
  refine bH (fun (s : Int) (i : Nat) => ((s, e.kind, e.n, e.text, e.args, (i : Int)) : Int × Int × Int × Str × (List af) × Int)) e.args
   (fun i s => (0 <= b - 1 - wtL (e.args.take i) -> s = b - 1 - wtL (e.args.take i)) /\ (b - 1 - wtL (e.args.take i) < 0 -> s = -1)) _ (fun i x s hx hI => ?_) (fun s hI => ?_) (b - 1) ⟨fun _ => by simp [wtL], fun h => by simp [wtL] at h; omega⟩
  ·obtain ⟨i1, i2⟩ := hI
   have hm := zG hx
   have h1 := zi hm
   have h2 := Gj hx
   have h3 := pY e.args (i + 1)
   by_cases hs : s >= 0
   ·obtain ⟨r, e1, r1, r2⟩ := ih x s (by have := qP hm; omega) (by omega) hs (by
     by_cases hb : 0 <= b - 1 - wtL (e.args.take i)
     ·have := i1 hb; omega
     ·have := i2 (by omega); omega)
    have hs' : s = b - 1 - wtL (e.args.take i) := by
     by_cases hb : 0 <= b - 1 - wtL (e.args.take i)
     ·exact i1 hb
     ·have := i2 (by omega); omega
    refine .inl ⟨r, ?_, fun hr => ?_, fun hr => ?_⟩
    ·simp only [bK hx, cond_true, decide_eq_true hs, aB, hx, zA, bF, e1, bI hx (by omega)]
    ·rw [h2] at hr ⊢
     rw [r1 (by omega)]; omega
    ·rw [h2] at hr
     exact r2 (by omega)
   ·refine .inr ⟨s, ?_, fun h => ?_, fun h => ?_⟩
    ·simp only [bK hx, cond_true, decide_eq_false hs, cond_false]
    ·have := pY e.args i
     have := i1 (by omega)
     omega
    ·have := i1
     by_cases hb : 0 <= b - 1 - wtL (e.args.take i)
     ·have := i1 hb; omega
     ·exact i2 (by omega)
  ·obtain ⟨i1, i2⟩ := hI
   rw [List.take_length] at i1 i2
   exact ⟨s, by simp only [bC, cond_false], fun h => by rw [i1 (by omega)]; omega, fun h => i2 (by omega)⟩
theorem IV : ∀ (n : Nat) (e : af), siz e < n -> wtE e <= 1048576 -> ∃ r, iR n e = some r /\ True
 | 0, e, h, _ => absurd h (Nat.not_lt_zero _)
 | n + 1, e, hn, hf => by
  have ih := IV n
  have hl := CV (e := e)
  show ∃ r, mM (iR n) e = some r /\ _
  unfold mM
  refine bH (fun (s : Int) (i : Nat) => ((e.kind, e.n, e.text, e.args, s, (i : Int)) : Int × Int × Str × (List af) × Int × Int)) e.args (fun _ _ => True) _ (fun i x s hx hI => ?_) (fun s hI => ?_) 0 trivial
  ·have hm := zG hx
   obtain ⟨r, e1, _⟩ := ih x (by have := qP hm; omega) (by have := zi hm; omega)
   refine .inl ⟨if r > s then r else s, ?_, trivial⟩
   simp only [bK hx, cond_true, aB, hx, zA, bF, e1, ML, bI hx (by omega)]
  ·exact ⟨_, by simp only [bC, cond_false]; rfl, trivial⟩
theorem TG (a : Str) : ∃ r, dw a = some r /\ r <= 4 /\ (0 <= r -> a.length <= 6) := by
 unfold dw
 have go : ∀ (w : Str) (k : Int) (z : Option Int), w.length <= 6 -> k <= 4 -> (∃ r, z = some r /\ r <= 4 /\ (0 <= r -> a.length <= 6)) -> ∃ r, (bif (a == w) then some k else z) = some r /\ r <= 4 /\ (0 <= r -> a.length <= 6) := by
  intro w k z hw hk hz
  cases h : (a == w) with
  | true =>
   have e := eq_of_beq h
   exact ⟨k, rfl, hk, fun _ => by rw [e]; exact hw⟩
  | false => exact hz
 repeat refine go _ _ _ (by decide) (by decide) ?_
 exact ⟨-1, rfl, by decide, fun h => by omega⟩
structure Ff (e : af) : Prop where
 k0 : 1 <= e.kind
 k9 : e.kind <= 9
 num : e.kind = 1 -> 0 <= e.n /\ e.n <= 1000000000
 call : e.kind = 5 -> e.args.length <= 4
 list : e.kind = 4 -> e.args.length <= 8
 op : e.kind = 6 -> e.args.length = 2 /\ 1 <= e.n /\ e.n <= 5
 two : e.kind = 7 \/ e.kind = 9 -> e.args.length = 2
 three : e.kind = 8 -> e.args.length = 3
 leaf : e.kind = 1 \/ e.kind = 2 \/ e.kind = 3 -> e.args = []
inductive Aq : af -> Prop
 | mk (e : af) (h : Ff e) (hs : ∀ x, x ∈ e.args -> Aq x) : Aq e
theorem abr (e : af) (ht : ∃ v, dS e.text = some v) (hn : ∃ v, bU e.text = some v) : ∃ v, kP e = some v /\ (v = true -> Ff e) := by
 have e1 := iQ e.n 0 1000000000
 have e5 := iQ e.n 1 5
 obtain ⟨v2, e2⟩ := ht
 obtain ⟨v3, e3⟩ := hn
 obtain ⟨v4, e4, h4, h4'⟩ := TG e.text
 have no : ∃ v, (some false : Option Bool) = some v /\ (v = true -> Ff e) := ⟨false, rfl, fun h => (by cases h)⟩
 have bb : ∀ (c : Bool) (z : Option Bool), (c = true -> ∃ v, z = some v /\ (v = true -> Ff e)) -> ∃ v, (bif c then z else some false) = some v /\ (v = true -> Ff e) := by
  intro c z hz
  cases c with
  | true => exact hz rfl
  | false => exact no
 have kk : ∀ (k : Int) (z z' : Option Bool), (e.kind = k -> ∃ v, z = some v /\ (v = true -> Ff e)) -> (¬ e.kind = k -> ∃ v, z' = some v /\ (v = true -> Ff e)) -> ∃ v, (bif (e.kind == k) then z else z') = some v /\ (v = true -> Ff e) := by
  intro k z z' hz hz'
  cases h : (e.kind == k) with
  | true => exact hz (eq_of_beq h)
  | false => exact hz' (by simpa using h)
 have nil : ((e.args.length : Int) == 0) = true -> e.args = [] := fun h => by
  have h := eq_of_beq h
  exact List.length_eq_zero_iff.1 (by omega)
 unfold kP
 simp only [e1, e2, e3, e4, e5, zA]
 refine kk 1 _ _ (fun hk => bb _ _ fun a1 => bb _ _ fun a2 => ⟨_, rfl, fun hv => ?_⟩) fun n1 => ?_
 ·have hv : 0 <= e.n /\ e.n <= 1000000000 := by simpa using hv
  exact ⟨by omega, by omega, fun _ => hv, fun h => by omega, fun h => by omega, fun h => by omega, fun h => by omega, fun h => by omega, fun _ => nil a1⟩
 refine kk 2 _ _ (fun hk => bb _ _ fun a1 => bb _ _ fun a2 => ⟨_, rfl, fun hv => ?_⟩) fun n2 => ?_
 ·exact ⟨by omega, by omega, fun h => by omega, fun h => by omega, fun h => by omega, fun h => by omega, fun h => by omega, fun h => by omega, fun _ => nil a1⟩
 refine kk 3 _ _ (fun hk => bb _ _ fun a1 => bb _ _ fun a2 => ⟨_, rfl, fun hv => ?_⟩) fun n3 => ?_
 ·exact ⟨by omega, by omega, fun h => by omega, fun h => by omega, fun h => by omega, fun h => by omega, fun h => by omega, fun h => by omega, fun _ => nil a1⟩
 refine kk 4 _ _ (fun hk => bb _ _ fun a1 => bb _ _ fun a2 => ⟨_, rfl, fun hv => ?_⟩) fun n4 => ?_
 ·have hv := of_decide_eq_true hv
  exact ⟨by omega, by omega, fun h => by omega, fun h => by omega, fun h => by omega, fun h => by omega, fun h => by omega, fun h => by omega, fun h => by omega⟩
 refine kk 5 _ _ (fun hk => bb _ _ fun a1 => ⟨_, rfl, fun hv => ?_⟩) fun n5 => ?_
 ·have hv := eq_of_beq hv
  exact ⟨by omega, by omega, fun h => by omega, fun h => by omega, fun h => by omega, fun h => by omega, fun h => by omega, fun h => by omega, fun h => by omega⟩
 refine kk 6 _ _ (fun hk => bb _ _ fun a1 => bb _ _ fun a2 => ⟨_, rfl, fun hv => ?_⟩) fun n6 => ?_
 ·have a2 := eq_of_beq a2
  have hv : 1 <= e.n /\ e.n <= 5 := by simpa using hv
  exact ⟨by omega, by omega, fun h => by omega, fun h => by omega, fun h => by omega, fun _ => ⟨by omega, hv⟩, fun h => by omega, fun h => by omega, fun h => by omega⟩
 refine kk 7 _ _ (fun hk => bb _ _ fun a1 => bb _ _ fun a2 => ⟨_, rfl, fun hv => ?_⟩) fun n7 => ?_
 ·have a2 := eq_of_beq a2
  exact ⟨by omega, by omega, fun h => by omega, fun h => by omega, fun h => by omega, fun h => by omega, fun _ => by omega, fun h => by omega, fun h => by omega⟩
 refine kk 9 _ _ (fun hk => bb _ _ fun a1 => bb _ _ fun a2 => ⟨_, rfl, fun hv => ?_⟩) fun n9 => ?_
 ·have a2 := eq_of_beq a2
  exact ⟨by omega, by omega, fun h => by omega, fun h => by omega, fun h => by omega, fun h => by omega, fun _ => by omega, fun h => by omega, fun h => by omega⟩
 refine kk 8 _ _ (fun hk => bb _ _ fun a1 => bb _ _ fun a2 => ⟨_, rfl, fun hv => ?_⟩) fun n8 => no
 ·have hv := eq_of_beq hv
  exact ⟨by omega, by omega, fun h => by omega, fun h => by omega, fun h => by omega, fun h => by omega, fun h => by omega, fun _ => by omega, fun h => by omega⟩
theorem tq (e : af) (hw : wtE e <= 1048576) : (∃ v, dS e.text = some v) /\ ∃ v, bU e.text = some v := by
 have ht := NM hw
 refine ⟨?_, ?_⟩
 ·obtain ⟨v, hv⟩ := Az e.text ht
  exact ⟨v, by rw [<- AA]; exact hv⟩
 ·exact ⟨_, xN e.text ht⟩
theorem aaF : ∀ (n : Nat) (e : af), siz e < n -> wtE e <= 1048576 -> ∃ v, mO n e = some v /\ (v = true -> Aq e)
 | 0, e, h, _ => absurd h (Nat.not_lt_zero _)
 | n + 1, e, hn, hw => by
  have ih := aaF n
  have hl := CV (e := e)
  show ∃ v, wG (mO n) e = some v /\ _
  unfold wG
  refine bH (fun (_ : Unit) (i : Nat) => ((e.kind, e.n, e.text, e.args, (i : Int)) : Int × Int × Str × (List af) × Int)) e.args (fun i _ => ∀ j x, e.args[j]? = some x -> j < i -> Aq x) _ (fun i x s hx hI => ?_) (fun s hI => ?_) () (fun j x _ hj => absurd hj (Nat.not_lt_zero _))
  ·have hm := zG hx
   obtain ⟨v, e1, h1⟩ := ih x (by have := qP hm; omega) (by have := zi hm; omega)
   simp only [bK hx, cond_true, aB, hx, zA, bF, e1, bI hx (by omega)]
   cases v with
   | false => exact .inr ⟨false, rfl, fun h => (by cases h)⟩
   | true =>
    refine .inl ⟨(), rfl, fun j y hy hj => ?_⟩
    by_cases hji : j = i
    ·subst hji
     rw [hx] at hy
     cases hy
     exact h1 rfl
    ·exact hI j y hy (by omega)
  ·obtain ⟨v, e1, h1⟩ := abr e (tq e hw).1 (tq e hw).2
   have eta : af.mk e.kind e.n e.text e.args = e := by cases e; rfl
   refine ⟨v, by simp only [bC, cond_false, eta, e1, zA], fun hv => .mk e (h1 hv) fun x hx => ?_⟩
   obtain ⟨j, hj⟩ := List.mem_iff_getElem?.1 hx
   exact hI j x hj (zC.1 hj).1
theorem UJ (e : af) (hw : wtE e <= 1048576) : yB e = FX e :=
 Rl (fun e => wtE e <= 1048576) (fun e x h hx => by have := zi hx; omega) (fun e h => UK e (by have := NM h; omega) (tq e h).1 (tq e h).2) _ e hw
theorem Ep (e : af) (hw : wtE e <= 1048576) : ∃ v, gX e = some v /\ iV e = some v /\ (v = true -> Aq e /\ wtE e <= 40) := by
 have e1 : Ae e = some (wtE e : Int) := BG _ e (Nat.lt_succ_self _) hw
 obtain ⟨r, e2, r1, r2⟩ := V8 _ e 40 (Nat.lt_succ_self _) hw (by omega) (by omega)
 have e2 : Hy e 40 = some r := e2
 obtain ⟨m, e3, _⟩ := IV _ e (Nat.lt_succ_self _) hw
 have e3 : zu e = some m := e3
 have e4 : Af e = some m := (KW _ e).trans e3
 obtain ⟨v, e5, h5⟩ := aaF _ e (Nat.lt_succ_self _) hw
 have e5 : FX e = some v := e5
 have e6 : yB e = some v := (UJ e hw).trans e5
 unfold gX iV
 simp only [bF, e1, e2, e3, e4, e5, e6, zA]
 have hd : decide ((wtE e : Int) <= 40) = decide (r >= 0) := by
  by_cases h : (wtE e : Int) <= 40
  ·have := r1 (by omega)
   rw [decide_eq_true h, decide_eq_true (by omega)]
  ·have := r2 (by omega)
   rw [decide_eq_false h, decide_eq_false (by omega)]
 rw [<- hd]
 by_cases h : (wtE e : Int) <= 40
 ·rw [decide_eq_true h]
  simp only [cond_true]
  cases decide (m <= 8) with
  | true => exact ⟨v, rfl, rfl, fun hv => ⟨h5 hv, by omega⟩⟩
  | false => exact ⟨false, rfl, rfl, fun h => (by cases h)⟩
 ·rw [decide_eq_false h]
  exact ⟨false, rfl, rfl, fun h => (by cases h)⟩
theorem QZ (a : Str) : ∃ (e : af) (p : Int), pG a = some (e, p) /\ oW a = some (e, p) /\ (p < 0 -> Aq e /\ wtE e <= 40) := by
 obtain ⟨⟨toks, t⟩, hok, hi, hs⟩ := Gx a
 obtain ⟨e, p, h1, h2, h3⟩ := UE a hi hs hok (fun e he => by
  obtain ⟨v, q1, q2, _⟩ := Ep e (by omega)
  exact ⟨v, q1, q2⟩)
 refine ⟨e, p, h1, h2, fun hp => ?_⟩
 obtain ⟨hv, hw⟩ := h3 hp
 obtain ⟨v, q1, _, q3⟩ := Ep e (by omega)
 rw [hv] at q1
 cases q1
 exact q3 rfl
end Go.Proofs.YtgfjbogcidlaeaaGreatDoor
