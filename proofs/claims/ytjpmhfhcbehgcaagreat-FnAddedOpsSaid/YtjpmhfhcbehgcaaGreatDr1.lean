/- Plain laws: drawing, step by step; drawn expressions and texts. Plain laws: drawn cells. -/
import Derived.Test.YtjpmhfhcbehgcaaGreatDraw1
import Derived.Test.YtjpmhfhcbehgcaaGreatExpr1
set_option linter.unusedSimpArgs false
set_option linter.unusedVariables false
namespace Go.Proofs.YtjpmhfhcbehgcaaGreat
open Go.Abs Go.Proofs

/-- something is drawn, and the cursor can be read on -/
def Dr {α : Type} (x : Option (GCur × α)) (P : α → Prop) : Prop := ∃ c y, x = some (c, y) ∧ CurOk c ∧ P y
theorem Dr.bind {α β : Type} {x : Option (GCur × α)} {P : α → Prop} {f : GCur × α → Option (GCur × β)} {Q : β → Prop} (hx : Dr x P) (hf : ∀ c y, CurOk c → P y → Dr (f (c, y)) Q) : Dr (x.bind f) Q := by
  obtain ⟨c, y, e, k, p⟩ := hx
  rw [e]
  exact hf c y k p
theorem Dr.pbind {α β : Type} {x : Option α} {P : α → Prop} {f : α → Option (GCur × β)} {Q : β → Prop} (hx : ∃ y, x = some y ∧ P y) (hf : ∀ y, P y → Dr (f y) Q) : Dr (x.bind f) Q := by
  obtain ⟨y, e, p⟩ := hx
  rw [e]
  exact hf y p
theorem Dr.gd {n : Nat} {β : Type} {f : Unit → Option (GCur × β)} {Q : β → Prop} (h : n ≤ 34359738368) (hf : Dr (f ()) Q) : Dr ((gd n).bind f) Q := by
  rw [gd_ok h]; exact hf
theorem Dr.bif {β : Type} {b : Bool} {x y : Option (GCur × β)} {Q : β → Prop} (h1 : b = true → Dr x Q) (h2 : b = false → Dr y Q) : Dr (bif b then x else y) Q := by
  cases b with
  | true => exact h1 rfl
  | false => exact h2 rfl
theorem Dr.ret {β : Type} {c : GCur} {y : β} {Q : β → Prop} (h : CurOk c) (hy : Q y) : Dr (some (c, y)) Q := ⟨c, y, rfl, h, hy⟩
theorem Dr.of {β : Type} {x : Option (GCur × β)} {Q : β → Prop} (h : ∃ r, x = some r ∧ CurOk r.1 ∧ Q r.2) : Dr x Q := by
  obtain ⟨⟨c, y⟩, e, k, q⟩ := h
  exact ⟨c, y, e, k, q⟩
theorem Dr.mono {β : Type} {x : Option (GCur × β)} {P Q : β → Prop} (h : Dr x P) (hq : ∀ y, P y → Q y) : Dr x Q := by
  obtain ⟨c, y, e, k, p⟩ := h
  exact ⟨c, y, e, k, hq y p⟩
theorem below_dr {c : GCur} (h : CurOk c) (n : Int) : Dr (sL1Below c n) fun x => 0 ≤ x ∧ (0 < n → x < n) := by
  obtain ⟨c', x, e, k, p, q⟩ := below_ok h n
  exact ⟨c', x, e, k, p, q⟩
theorem once_dr {c : GCur} (h : CurOk c) (n : Int) : Dr (sL1Once c n) fun _ => True := by
  obtain ⟨c', x, e, k⟩ := once_ok h n
  exact ⟨c', x, e, k, trivial⟩
theorem pick_dr {c : GCur} (h : CurOk c) (xs : List Str) (h0 : xs ≠ []) : Dr (sL1Pick c xs) fun s => s ∈ xs := by
  obtain ⟨c', x, e, k, p⟩ := pick_ok h xs h0
  exact ⟨c', x, e, k, p⟩
theorem pickInt_dr {c : GCur} (h : CurOk c) (xs : List Int) (h0 : xs ≠ []) : Dr (sL1PickInt c xs) fun s => s ∈ xs := by
  obtain ⟨c', x, e, k, p⟩ := pickInt_ok h xs h0
  exact ⟨c', x, e, k, p⟩

/-! expressions -/
abbrev ExprF (e : GExpr) : Prop := Fit B20 (.base .expr) e
theorem expr_fit {k n : Int} {s : Str} {xs : List GExpr} (h1 : FitD B20 (.int .i64 k)) (h2 : FitD B20 (.int .i64 n)) (h3 : (s.length : Int) ≤ 1048576) (h4 : (xs.length : Int) ≤ 1048576) (h5 : ∀ x, x ∈ xs → ExprF x) : ExprF (GExpr.mk k n s xs) := by
  show Fit B20 (.base .expr) _
  rw [fit_expr]; exact ⟨h1, h2, mkStr20 h3, mkList20 h4 h5⟩
theorem num_fit {n : Int} (h0 : -1000000000 ≤ n) (h1 : n ≤ 1000000000) : ExprF (GExpr.mk 1 n [] []) := expr_fit (intB (by omega) (by omega)) (intB h0 h1) (by simp) (by simp) fun x hx => (by cases hx)
theorem kid_fit {k n : Int} {s : Str} (h0 : -1000000000 ≤ k) (h1 : k ≤ 1000000000) (g0 : -1000000000 ≤ n) (g1 : n ≤ 1000000000) (h3 : s.length ≤ 1000) : ExprF (GExpr.mk k n s []) := expr_fit (intB h0 h1) (intB g0 g1) (by omega) (by simp) fun x hx => (by cases hx)
def NamesOk (b : List Str) : Prop := b ≠ [] ∧ ∀ s, s ∈ b → s.length ≤ 20
theorem sL10Num_ok {n : Int} (h0 : 0 ≤ n) (h1 : n ≤ 1000) : ∃ e, sL10Num n = some e ∧ ExprF e := ⟨_, rfl, num_fit (by omega) (by omega)⟩
theorem sL10Name_ok {s : Str} (h : s.length ≤ 20) : ∃ e, sL10Name s = some e ∧ ExprF e := ⟨_, rfl, kid_fit (by omega) (by omega) (by omega) (by omega) (by omega)⟩
theorem sL10Call_ok {s : Str} {xs : List GExpr} (h : s.length ≤ 20) (hl : xs.length ≤ 10) (hx : ∀ x, x ∈ xs → ExprF x) : ∃ e, sL10Call s xs = some e ∧ ExprF e := ⟨_, rfl, expr_fit (intB (by omega) (by omega)) (intB (by omega) (by omega)) (by omega) (by omega) hx⟩
theorem sL10Op_ok {n : Int} {a b : GExpr} (h0 : 0 ≤ n) (h1 : n ≤ 1000) (ha : ExprF a) (hb : ExprF b) : ∃ e, sL10Op n a b = some e ∧ ExprF e := by
  refine ⟨_, rfl, expr_fit (intB (by omega) (by omega)) (intB (by omega) (by omega)) (by simp) (by simp) fun x hx => ?_⟩
  simp only [reExpr_eq, List.mem_cons, List.not_mem_nil, or_false] at hx
  rcases hx with rfl | rfl
  · exact ha
  · exact hb
theorem leaf_dr {c : GCur} {b : List Str} (h : CurOk c) (hb : NamesOk b) : Dr (sL10Leaf c b) ExprF := by
  unfold sL10Leaf
  simp only [reExpr_eq]
  refine Dr.bind (below_dr h 5) fun c1 x k1 p1 => ?_
  refine Dr.bif (fun _ => ?_) fun _ => ?_
  · refine Dr.bind (pick_dr k1 _ (by simp)) fun c2 s k2 p2 => .ret k2 (kid_fit (by omega) (by omega) (by omega) (by omega) ?_)
    simp at p2
    rcases p2 with rfl | rfl | rfl | rfl <;> simp
  have num : Dr ((sL1Below c1 6).bind fun r3 => (sL10Num r3.2).bind fun r4 => some (r3.1, r4)) ExprF := by
    refine Dr.bind (below_dr k1 6) fun c2 x k2 p2 => ?_
    have := p2.2 (by omega)
    exact Dr.pbind (sL10Num_ok p2.1 (by omega)) fun e he => .ret k2 he
  refine Dr.bif (fun _ => num) fun _ => Dr.bif (fun _ => num) fun _ => ?_
  refine Dr.bind (pick_dr k1 _ hb.1) fun c2 s k2 p2 => ?_
  exact Dr.pbind (sL10Name_ok (hb.2 s p2)) fun e he => .ret k2 he
theorem mem_set {α : Type} {xs : List α} {i : Nat} {x y : α} (h : y ∈ xs.set i x) : y ∈ xs ∨ y = x := by
  rcases List.mem_or_eq_of_mem_set h with h | h
  · exact .inl h
  · exact .inr h
theorem list_dr {c : GCur} {b : List Str} (h : CurOk c) (hb : NamesOk b) : Dr (sL10List c b) ExprF := by
  unfold sL10List
  simp only [reExpr_eq]
  refine Dr.bind (below_dr h 4) fun c1 n k1 p1 => ?_
  have hn := p1.2 (by omega)
  obtain ⟨m, rfl⟩ := nat_of p1.1
  refine Dr.of (count_ex (fun (s : GCur × List GExpr) (i : Nat) => ((s.1.b, s.1.i, s.1.h, b, 0, 0, [], [], 4, 0, [], s.2, (m : Int), (i : Int)) : (List Int) × Int × Int × (List Str) × Int × Int × Str × (List GExpr) × Int × Int × Str × (List GExpr) × Int × Int)) m
    (fun i s => CurOk s.1 ∧ s.2.length = i ∧ ∀ x, x ∈ s.2 → ExprF x) (fun (r : GCur × GExpr) => CurOk r.1 ∧ ExprF r.2) (fun i s hi hs => ?_) (fun s hs => ?_) (c1, []) ⟨k1, rfl, fun x hx => (by cases hx)⟩)
  · obtain ⟨hc, hl, hx⟩ := hs
    obtain ⟨c2, x2, e2, k2, p2, q2⟩ := below_ok hc 5
    have := q2 (by omega)
    obtain ⟨e, e3, he⟩ := sL10Num_ok p2 (by omega)
    obtain ⟨c4, b4, e4, k4⟩ := once_ok k2 4
    have hmem : ∀ x, x ∈ s.2 ++ [e] → ExprF x := fun x h' => by
      rcases List.mem_append.1 h' with h' | h'
      · exact hx x h'
      · rw [List.mem_singleton.1 h']; exact he
    simp only [cnt_lt hi, cond_true, e2, e3, e4, Option.bind_some, gd_ok (show s.2.length + [e].length ≤ 34359738368 by simp; omega), cnt_w hi (show m ≤ 1048576 by omega)]
    cases b4 with
    | false => exact ⟨(c4, s.2 ++ [e]), rfl, k4, by simp [hl], hmem⟩
    | true =>
      obtain ⟨c5, f, e5, k5, hf⟩ := leaf_dr k4 hb
      have hget : (s.2 ++ [e])[i]? = some e := by rw [← hl]; simp
      simp only [cond_true, e5, Option.bind_some, idx_nat, hget, Int.toNat_natCast]
      refine ⟨(c5, (s.2 ++ [e]).set i f), rfl, k5, by simp [hl], fun x h' => ?_⟩
      rcases mem_set h' with h' | rfl
      · exact hmem x h'
      · exact hf
  · obtain ⟨hc, hl, hx⟩ := hs
    exact ⟨(s.1, GExpr.mk 4 0 [] s.2), by simp only [nlt_self, cond_false], hc, expr_fit (intB (by omega) (by omega)) (intB (by omega) (by omega)) (by simp) (by omega) hx⟩
theorem pickExpr_dr {c : GCur} {a b : GExpr} (h : CurOk c) (ha : ExprF a) (hb : ExprF b) : Dr (sL1PickExpr c a b) ExprF := by
  unfold sL1PickExpr
  simp only [reExpr_eq]
  exact Dr.bind (once_dr h 2) fun c1 x k1 _ => Dr.bif (fun _ => .ret k1 ha) fun _ => .ret k1 hb
theorem column_dr {c : GCur} (h : CurOk c) : Dr (sL10Column c) ExprF := by
  unfold sL10Column
  refine Dr.bind (pick_dr h _ (by simp)) fun c2 s k2 p2 => .ret k2 (kid_fit (by omega) (by omega) (by omega) (by omega) ?_)
  simp at p2
  rcases p2 with rfl | rfl | rfl | rfl <;> simp
theorem table_dr {c : GCur} (h : CurOk c) : Dr (sL10Table c) ExprF := by
  unfold sL10Table
  simp only [reExpr_eq]
  refine Dr.bind (below_dr h 4) fun c1 n k1 p1 => ?_
  have hn := p1.2 (by omega)
  obtain ⟨m, rfl⟩ := nat_of p1.1
  refine Dr.of (count_ex (fun (s : GCur × List GExpr) (i : Nat) => ((s.1.b, s.1.i, s.1.h, 0, 0, [], [], 4, 0, [], s.2, (m : Int), (i : Int)) : (List Int) × Int × Int × Int × Int × Str × (List GExpr) × Int × Int × Str × (List GExpr) × Int × Int)) m
    (fun i s => CurOk s.1 ∧ s.2.length = i ∧ ∀ x, x ∈ s.2 → ExprF x) (fun (r : GCur × GExpr) => CurOk r.1 ∧ ExprF r.2) (fun i s hi hs => ?_) (fun s hs => ?_) (c1, []) ⟨k1, rfl, fun x hx => (by cases hx)⟩)
  · obtain ⟨hc, hl, hx⟩ := hs
    obtain ⟨c2, x2, e2, k2, p2, q2⟩ := below_ok hc 3
    have := q2 (by omega)
    obtain ⟨e, e3, he⟩ := sL10Num_ok p2 (by omega)
    obtain ⟨c4, x4, e4, k4, p4, q4⟩ := below_ok k2 4
    have := q4 (by omega)
    obtain ⟨f, e5, hf⟩ := sL10Num_ok p4 (by omega)
    simp only [cnt_lt hi, cond_true, e2, e3, e4, e5, Option.bind_some, gd_ok (show s.2.length + [GExpr.mk 4 0 [] [e, f]].length ≤ 34359738368 by simp; omega), cnt_w hi (show m ≤ 1048576 by omega)]
    refine ⟨(c4, s.2 ++ [GExpr.mk 4 0 [] [e, f]]), rfl, k4, by simp [hl], fun x h' => ?_⟩
    rcases List.mem_append.1 h' with h' | h'
    · exact hx x h'
    · rw [List.mem_singleton.1 h']
      refine expr_fit (intB (by omega) (by omega)) (intB (by omega) (by omega)) (by simp) (by simp) fun y hy => ?_
      simp only [List.mem_cons, List.not_mem_nil, or_false] at hy
      rcases hy with rfl | rfl
      · exact he
      · exact hf
  · obtain ⟨hc, hl, hx⟩ := hs
    have hL : ExprF (GExpr.mk 4 0 [] s.2) := expr_fit (intB (by omega) (by omega)) (intB (by omega) (by omega)) (by simp) (by omega) hx
    obtain ⟨e, e1, he⟩ := sL10Call_ok (s := [116, 97, 98, 108, 101]) (xs := [GExpr.mk 2 0 [97, 32, 98] [], GExpr.mk 4 0 [] s.2]) (by simp) (by simp) fun x hx => by
      simp only [List.mem_cons, List.not_mem_nil, or_false] at hx
      rcases hx with rfl | rfl
      · exact kid_fit (by omega) (by omega) (by omega) (by omega) (by simp)
      · exact hL
    exact ⟨(s.1, e), by simp only [nlt_self, cond_false, e1, Option.bind_some], hc, he⟩
theorem one_fit {a : GExpr} (ha : ExprF a) : ∀ x, x ∈ [a] → ExprF x := fun x hx => by rw [List.mem_singleton.1 hx]; exact ha
theorem two_fit {a b : GExpr} (ha : ExprF a) (hb : ExprF b) : ∀ x, x ∈ [a, b] → ExprF x := fun x hx => by
  simp only [List.mem_cons, List.not_mem_nil, or_false] at hx
  rcases hx with rfl | rfl
  · exact ha
  · exact hb
theorem three_fit {a b c : GExpr} (ha : ExprF a) (hb : ExprF b) (hc : ExprF c) : ∀ x, x ∈ [a, b, c] → ExprF x := fun x hx => by
  simp only [List.mem_cons, List.not_mem_nil, or_false] at hx
  rcases hx with rfl | rfl | rfl
  · exact ha
  · exact hb
  · exact hc
theorem makeG_dr : ∀ (n : Nat) {a : GCur} {b : List Str} (c : Int), CurOk a → NamesOk b → b.length + 2 * c.toNat ≤ 1000 → c ≤ n → 1 ≤ n → c ≤ 10 → Dr (sL10MakeG n a b c) ExprF
  | 0, a, b, c, _, _, _, _, h, _ => absurd h (by omega)
  | n + 1, a, b, c, h, hb, hl, hc, _, h10 => by
    show Dr (sL10MakeB (sL10MakeG n) a b c) ExprF
    unfold sL10MakeB
    simp only [reExpr_eq]
    refine Dr.bif (fun _ => Dr.bind (leaf_dr h hb) fun c1 x k1 p1 => .ret k1 p1) fun h2 => ?_
    have h2 : 2 ≤ c := by simp at h2; exact h2
    have hw : w64 (c - 1) = c - 1 := w64_id (by omega) (by omega)
    rw [hw]
    have ih : ∀ {a : GCur} {b' : List Str}, CurOk a → NamesOk b' → b'.length ≤ b.length + 2 → Dr (sL10MakeG n a b' (c - 1)) ExprF := fun ha hb' hl' => makeG_dr n (c - 1) ha hb' (by omega) (by omega) (by omega) (by omega)
    have ihb : ∀ {a : GCur}, CurOk a → Dr (sL10MakeG n a b (c - 1)) ExprF := fun ha => ih ha hb (by omega)
    obtain ⟨b0, hb0, hb0m⟩ : ∃ b0, idx b 0 = some b0 ∧ b0 ∈ b := by
      cases hbb : b with
      | nil => exact absurd hbb hb.1
      | cons x r => exact ⟨x, rfl, List.mem_cons_self⟩
    have names : ∀ s, s ∈ [[117], [118], b0] → s.length ≤ 20 := fun s hs => by
      simp only [List.mem_cons, List.not_mem_nil, or_false] at hs
      rcases hs with rfl | rfl | rfl
      · simp
      · simp
      · exact hb.2 _ hb0m
    simp only [hb0, Option.bind_some]
    refine Dr.bind (below_dr h 13) fun c1 x k1 p1 => ?_
    have op : Dr ((sL1Below c1 5).bind fun r3 => (sL10MakeG n r3.1 b (c - 1)).bind fun r4 => (sL10MakeG n r4.1 b (c - 1)).bind fun r5 => (sL10Op (w64 (1 + r3.2)) r4.2 r5.2).bind fun r6 => some (r5.1, r6)) ExprF := by
      refine Dr.bind (below_dr k1 5) fun c2 y k2 p2 => Dr.bind (ihb k2) fun c3 u k3 p3 => Dr.bind (ihb k3) fun c4 v k4 p4 => ?_
      have := p2.2 (by omega)
      have hw : w64 (1 + y) = 1 + y := w64_id (by omega) (by omega)
      show Dr ((sL10Op (w64 (1 + y)) u v).bind fun r6 => some (c4, r6)) ExprF
      rw [hw]
      exact Dr.pbind (sL10Op_ok (by omega) (by omega) p3 p4) fun e he => .ret k4 he
    refine Dr.bif (fun _ => op) fun _ => Dr.bif (fun _ => op) fun _ => Dr.bif (fun _ => ?_) fun _ => Dr.bif (fun _ => ?_) fun _ => Dr.bif (fun _ => ?_) fun _ => Dr.bif (fun _ => ?_) fun _ =>
      Dr.bif (fun _ => ?_) fun _ => Dr.bif (fun _ => ?_) fun _ => Dr.bif (fun _ => ?_) fun _ => Dr.bif (fun _ => ?_) fun _ => Dr.bif (fun _ => ?_) fun _ => Dr.bif (fun _ => ?_) fun _ => ?_
    · refine Dr.bind (pick_dr k1 _ (by simp)) fun c2 s k2 p2 => Dr.bind (ihb k2) fun c3 u k3 p3 => Dr.gd (by simp; omega) ?_
      have ls := names s p2
      refine Dr.bind (ih k3 ⟨by simp, fun t ht => ?_⟩ (by rw [List.length_append]; simp only [List.length_cons, List.length_nil]; omega)) fun c4 v k4 p4 => .ret k4 (expr_fit (intB (by omega) (by omega)) (intB (by omega) (by omega)) (by show (s.length : Int) ≤ _; omega) (by simp) (two_fit p3 p4))
      rcases List.mem_append.1 ht with ht | ht
      · rw [List.mem_singleton.1 ht]; exact ls
      · exact hb.2 t ht
    · exact Dr.bind (ihb k1) fun c2 u k2 p2 => Dr.bind (ihb k2) fun c3 v k3 p3 => Dr.bind (ihb k3) fun c4 w k4 p4 => .ret k4 (expr_fit (intB (by omega) (by omega)) (intB (by omega) (by omega)) (by simp) (by simp) (three_fit p2 p3 p4))
    · refine Dr.bind (pick_dr k1 _ (by simp)) fun c2 s k2 p2 => Dr.bind (list_dr k2 hb) fun c3 u k3 p3 => Dr.gd (by simp; omega) ?_
      have ls := names s p2
      refine Dr.bind (ih k3 ⟨by simp, fun t ht => ?_⟩ (by rw [List.length_append]; simp only [List.length_cons, List.length_nil]; omega)) fun c4 v k4 p4 => .ret k4 (expr_fit (intB (by omega) (by omega)) (intB (by omega) (by omega)) (by show (s.length : Int) ≤ _; omega) (by simp) (two_fit p3 p4))
      rcases List.mem_append.1 ht with ht | ht
      · simp only [List.mem_cons, List.not_mem_nil, or_false, or_self] at ht
        rw [ht]; exact ls
      · exact hb.2 t ht
    · exact Dr.bind (list_dr k1 hb) fun c2 u k2 p2 => .ret k2 p2
    · refine Dr.bind (pick_dr k1 _ (by simp)) fun c2 s k2 p2 => Dr.bind (list_dr k2 hb) fun c3 u k3 p3 => Dr.bind (ihb k3) fun c4 v k4 p4 => Dr.bind (pickExpr_dr k4 p3 p4) fun c5 w k5 p5 => ?_
      refine Dr.pbind (sL10Call_ok ?_ (by simp) (one_fit p5)) fun e he => .ret k5 he
      simp at p2
      rcases p2 with rfl | rfl <;> simp
    · refine Dr.bind (pick_dr k1 _ (by simp)) fun c2 s k2 p2 => Dr.bind (below_dr k2 4) fun c3 y k3 p3 => ?_
      have := p3.2 (by omega)
      refine Dr.pbind (sL10Num_ok p3.1 (by omega)) fun e1 he1 => Dr.bind (list_dr k3 hb) fun c4 u k4 p4 => Dr.bind (below_dr k4 9) fun c5 z k5 p5 => ?_
      have := p5.2 (by omega)
      refine Dr.pbind (sL10Num_ok p5.1 (by omega)) fun e2 he2 => Dr.bind (below_dr k5 4) fun c6 z6 k6 p6 => ?_
      have := p6.2 (by omega)
      refine Dr.pbind (sL10Num_ok p6.1 (by omega)) fun e3 he3 => Dr.pbind (sL10Call_ok (by simp) (by simp) (two_fit he2 he3)) fun e4 he4 => Dr.bind (pickExpr_dr k6 p4 he4) fun c7 w k7 p7 => ?_
      refine Dr.pbind (sL10Call_ok ?_ (by simp) (two_fit he1 p7)) fun e he => .ret k7 he
      simp at p2
      rcases p2 with rfl | rfl | rfl | rfl <;> simp
    · refine Dr.bind (column_dr k1) fun c2 s k2 p2 => Dr.bind (below_dr k2 3) fun c3 y k3 p3 => ?_
      have := p3.2 (by omega)
      refine Dr.pbind (sL10Num_ok p3.1 (by omega)) fun e1 he1 => Dr.bind (table_dr k3) fun c4 u k4 p4 => Dr.bind (ihb k4) fun c5 v k5 p5 => Dr.bind (pickExpr_dr k5 p4 p5) fun c6 w k6 p6 => ?_
      exact Dr.pbind (sL10Call_ok (by simp) (by simp) (three_fit p2 he1 p6)) fun e he => .ret k6 he
    · refine Dr.bind (column_dr k1) fun c2 s k2 p2 => Dr.bind (column_dr k2) fun c3 y k3 p3 => Dr.bind (table_dr k3) fun c4 u k4 p4 => Dr.bind (ihb k4) fun c5 v k5 p5 => Dr.bind (pickExpr_dr k5 p4 p5) fun c6 w k6 p6 => ?_
      exact Dr.pbind (sL10Call_ok (by simp) (by simp) (three_fit p2 p3 p6)) fun e he => .ret k6 he
    · refine Dr.bind (table_dr k1) fun c4 u k4 p4 => Dr.bind (ihb k4) fun c5 v k5 p5 => Dr.bind (pickExpr_dr k5 p4 p5) fun c6 w k6 p6 => ?_
      exact Dr.pbind (sL10Call_ok (by simp) (by simp) (one_fit p6)) fun e he => .ret k6 he
    · refine Dr.bind (below_dr k1 6) fun c2 y k2 p2 => ?_
      have := p2.2 (by omega)
      have hw : w64 (1 + y) = 1 + y := w64_id (by omega) (by omega)
      show Dr ((sL10Num (w64 (1 + y))).bind _) ExprF
      rw [hw]
      refine Dr.pbind (sL10Num_ok (by omega) (by omega)) fun e1 he1 => ?_
      exact Dr.pbind (sL10Call_ok (by simp) (by simp) (one_fit he1)) fun e he => .ret k2 he
    · refine Dr.pbind (sL10Call_ok (by simp) (by simp) fun x hx => (by cases hx)) fun e1 he1 => Dr.bind (pick_dr k1 _ (by simp)) fun c2 s k2 p2 => ?_
      refine Dr.pbind (sL10Call_ok (by simp) (by simp) (one_fit (kid_fit (by omega) (by omega) (by omega) (by omega) ?_))) fun e2 he2 => Dr.bind (pickExpr_dr k2 he1 he2) fun c3 w k3 p3 => .ret k3 p3
      simp at p2
      rcases p2 with rfl | rfl | rfl <;> simp
theorem siz_int (n : Int) : 1 ≤ siz n := by
  cases n with
  | ofNat a => show 1 ≤ SizeOf.sizeOf (Int.ofNat a); rw [Int.ofNat.sizeOf_spec]; omega
  | negSucc a => show 1 ≤ SizeOf.sizeOf (Int.negSucc a); rw [Int.negSucc.sizeOf_spec]; omega
theorem siz_pos {α : Type} [SizeOf α] (l : List α) : 1 ≤ siz l := by
  cases l with
  | nil => simp [siz]
  | cons x r => simp only [siz]; rw [List.cons.sizeOf_spec]; omega
theorem siz_cur (c : GCur) : 4 ≤ siz c := by
  cases c with
  | mk b i h =>
    have h1 := siz_pos b
    have h2 := siz_int i
    have h3 := siz_int h
    simp only [siz] at *
    rw [GCur.mk.sizeOf_spec]
    omega
theorem make_dr {a : GCur} {b : List Str} (c : Int) (h : CurOk a) (hb : NamesOk b) (hl : b.length ≤ 100) (h4 : c ≤ 5) : Dr (sL10Make a b c) ExprF := by
  have h1 := siz_cur a
  have h2 := siz_pos b
  exact makeG_dr (siz a + siz b + 1) c h hb (by omega) (by omega) (by omega) (by omega)

theorem cutL_mid {α : Type} (xs : List α) (a b : Nat) (h : a ≤ b) (hb : b ≤ xs.length) : eff.cutL xs (some (a : Int)) (some (b : Int)) = some ((xs.take b).drop a) := by
  unfold eff.cutL
  simp only [Option.getD_some]
  rw [if_pos ⟨by omega, by omega, by omega⟩]
  simp
theorem sSplitByte_ok (a : Str) (b : Int) (h : a.length ≤ 100000) : ∃ l, sSplitByte a b = some l ∧ l.length ≤ a.length + 1 ∧ 1 ≤ l.length ∧ ∀ s, s ∈ l → s.length ≤ a.length := by
  unfold sSplitByte
  refine count_ex (fun (s : List Str × Nat) (i : Nat) => ((a, b, s.1, (s.2 : Int), (i : Int)) : Str × Int × (List Str) × Int × Int)) (a.length + 1) (fun i s => s.1.length ≤ i ∧ s.2 ≤ i ∧ (a.length < i → 1 ≤ s.1.length) ∧ ∀ x, x ∈ s.1 → x.length ≤ a.length) _ (fun i s hi hs => ?_) (fun s hs => ?_) ([], 0) ⟨Nat.le_refl _, Nat.le_refl _, fun h => absurd h (by omega), fun x hx => (by cases hx)⟩
  · obtain ⟨h1, h2, h3, h4⟩ := hs
    have hle : decide ((i : Int) ≤ (a.length : Int)) = true := by simp; omega
    have hw : w64 ((i : Int) + 1) = ((i + 1 : Nat) : Int) := by rw [w64_id (by omega) (by omega)]; omega
    have hmem : ∀ y, y ∈ s.1 ++ ([(a.take i).drop s.2] : List Str) → y.length ≤ a.length := fun y hy => by
      rcases List.mem_append.1 hy with hy | hy
      · exact h4 y hy
      · rw [List.mem_singleton.1 hy, List.length_drop, List.length_take]; omega
    have hg : gd (s.1.length + ([(a.take i).drop s.2] : List Str).length) = some () := gd_ok (by simp; omega)
    simp only [hle, cond_true, cutL_mid a s.2 i h2 (by omega), Option.bind_some, hg, hw]
    by_cases he : i = a.length
    · have e : ((i : Int) == (a.length : Int)) = true := by simp; omega
      rw [e, cond_true]
      exact ⟨(s.1 ++ [(a.take i).drop s.2], i + 1), rfl, by simp; exact h1, by omega, fun _ => by simp, hmem⟩
    · have e : ((i : Int) == (a.length : Int)) = false := by simp; omega
      have hx := List.getElem?_eq_getElem (show i < a.length by omega)
      rw [e, cond_false]
      simp only [idx_nat, hx, Option.bind_some]
      cases ((a[i].toNat : Int) == b) with
      | true => exact ⟨(s.1 ++ [(a.take i).drop s.2], i + 1), rfl, by simp; exact h1, by omega, fun _ => by simp, hmem⟩
      | false => exact ⟨(s.1, s.2), rfl, by simp only; omega, by simp only; omega, fun h => absurd h (by omega), h4⟩
  · obtain ⟨h1, h2, h3, h4⟩ := hs
    have hle : decide (((a.length + 1 : Nat) : Int) ≤ (a.length : Int)) = false := by simp; omega
    exact ⟨s.1, by simp only [hle, cond_false], h1, h3 (by omega), h4⟩
theorem turned_dr {c : GCur} (h : CurOk c) (b : Str) (l : List Str) (hb : b.length ≤ 100000) (h0 : l ≠ []) (hl : ∀ s, s ∈ l → s.length ≤ 100) : Dr (sL1Turned c b l) fun s => s.length ≤ b.length + 100 := by
  unfold sL1Turned
  have hw : w64 ((b.length : Int) + 1) = (b.length : Int) + 1 := w64_id (by omega) (by omega)
  rw [hw]
  refine Dr.bind (below_dr h _) fun c1 x k1 p1 => Dr.bind (below_dr k1 6) fun c2 y k2 p2 => ?_
  have hx := p1.2 (by omega)
  obtain ⟨m, rfl⟩ := nat_of p1.1
  have e1 := cutL_to b m (by omega)
  have e2 := cutL_from b m (by omega)
  simp only [e1, e2, Option.bind_some]
  refine Dr.bif (fun _ => ?_) fun _ => Dr.bif (fun _ => .ret k2 ?_) fun _ => .ret k2 (by omega)
  · refine Dr.bind (pick_dr k2 l h0) fun c3 s k3 p3 => ?_
    have := hl s p3
    refine Dr.gd (by simp only [List.length_take]; omega) (Dr.gd (by simp only [List.length_append, List.length_take, List.length_drop]; omega) (.ret k3 ?_))
    simp only [List.length_append, List.length_take, List.length_drop]; omega
  · rw [List.length_take]; omega
theorem data_dr {c : GCur} (h : CurOk c) : Dr (sL17Data c) fun s => s.length ≤ 600 := by
  unfold sL17Data
  refine Dr.bind (pick_dr h _ (by simp)) fun c1 s k1 p1 => Dr.bind (below_dr k1 4) fun c2 n k2 p2 => ?_
  have hn := p2.2 (by omega)
  obtain ⟨m, rfl⟩ := nat_of p2.1
  have hs : s.length ≤ 5 := by
    simp at p1
    rcases p1 with rfl | rfl | rfl | rfl <;> simp
  obtain ⟨l, e3, l1, l2, _⟩ := sSplitByte_ok s 32 (by omega)
  simp only [e3, Option.bind_some]
  refine Dr.of (count_ex (fun (z : GCur × Str) (i : Nat) => ((z.1.b, z.1.i, z.1.h, z.2, (m : Int), (l.length : Int), (i : Int)) : (List Int) × Int × Int × Str × Int × Int × Int)) m
    (fun i z => CurOk z.1 ∧ z.2.length ≤ 5 + 130 * i) (fun (r : GCur × Str) => CurOk r.1 ∧ r.2.length ≤ 600) (fun i z hi hz => ?_) (fun z hz => ?_) (c2, s) ⟨k2, by omega⟩)
  · obtain ⟨hc, hl⟩ := hz
    simp only [cnt_lt hi, cond_true]
    have := count_ex (g := fun (x5 : (List Int) × Int × Int × Str × Int × Int × Int × (List Str) × Int) =>
        bif (decide (x5.2.2.2.2.2.2.2.2 < x5.2.2.2.2.2.1)) then
          (sL1Below (GCur.mk x5.1 x5.2.1 x5.2.2.1) 4).bind fun r6 =>
          (sFormatInt r6.2).bind fun r7 =>
          (gd (x5.2.2.2.2.2.2.2.1.length + ([r7] : List Str).length)).bind fun _ =>
          some (.inl (r6.1.b, r6.1.i, r6.1.h, x5.2.2.2.1, x5.2.2.2.2.1, x5.2.2.2.2.2.1, x5.2.2.2.2.2.2.1, x5.2.2.2.2.2.2.2.1 ++ ([r7] : List Str), w64 (x5.2.2.2.2.2.2.2.2 + 1)))
        else
          (
            (gd (x5.2.2.2.1.length + [59, 32].length)).bind fun _ =>
            (sJoin x5.2.2.2.2.2.2.2.1 [32]).bind fun r8 =>
            (gd ((x5.2.2.2.1 ++ [59, 32]).length + r8.length)).bind fun _ =>
            some ((.inl (x5.1, x5.2.1, x5.2.2.1, (x5.2.2.2.1 ++ [59, 32]) ++ r8, x5.2.2.2.2.1, x5.2.2.2.2.2.1, w64 (x5.2.2.2.2.2.2.1 + 1))) : ((List Int) × Int × Int × Str × Int × Int × Int) ⊕ (GCur × Str))
          ).bind fun r => some (.inr r)) (fun (y : GCur × List Str) (j : Nat) => ((y.1.b, y.1.i, y.1.h, z.2, (m : Int), (l.length : Int), (i : Int), y.2, (j : Int)) : (List Int) × Int × Int × Str × Int × Int × Int × (List Str) × Int)) l.length
        (fun j y => CurOk y.1 ∧ y.2.length = j ∧ lens y.2 ≤ 19 * j) (fun r => ∃ z' : GCur × Str, r = .inl (z'.1.b, z'.1.i, z'.1.h, z'.2, (m : Int), (l.length : Int), ((i + 1 : Nat) : Int)) ∧ CurOk z'.1 ∧ z'.2.length ≤ 5 + 130 * (i + 1)) (fun j y hj hy => ?_) (fun y hy => ?_) (z.1, []) ⟨hc, rfl, by simp [lens]⟩
    · obtain ⟨r, e, z', rfl, h1, h2⟩ := this
      exact ⟨z', e, h1, h2⟩
    · obtain ⟨hy1, hy2, hy3⟩ := hy
      obtain ⟨c4, x4, e4, k4, p4, q4⟩ := below_ok hy1 4
      have := q4 (by omega)
      obtain ⟨t, e5, l5, _⟩ := sFormatInt_ok x4 p4 (by omega)
      simp only [cnt_lt hj, cond_true, e4, e5, Option.bind_some, gd_ok (show y.2.length + ([t] : List Str).length ≤ 34359738368 by simp; omega), cnt_w hj (show l.length ≤ 1048576 by omega)]
      exact ⟨(c4, y.2 ++ [t]), rfl, k4, by simp [hy2], by rw [lens_snoc]; omega⟩
    · obtain ⟨hy1, hy2, hy3⟩ := hy
      obtain ⟨t, e6, l6⟩ := sJoin_ok y.2 [32] (by show y.2.length < 4611686018427387904; omega) (by simp only [List.length_cons, List.length_nil]; omega)
      simp only [List.length_cons, List.length_nil] at l6
      simp only [nlt_self, cond_false, e6, Option.bind_some, cnt_w hi (show m ≤ 1048576 by omega)]
      rw [gd_ok (by simp; omega), Option.bind_some, gd_ok (by simp; omega), Option.bind_some, Option.bind_some]
      exact ⟨_, rfl, (y.1, (z.2 ++ [59, 32]) ++ t), rfl, hy1, by simp; omega⟩
  · obtain ⟨hc, hl⟩ := hz
    simp only [nlt_self, cond_false]
    obtain ⟨c4, b4, e4, k4⟩ := once_ok hc 12
    simp only [e4, Option.bind_some]
    cases b4 with
    | false => exact ⟨(c4, z.2), rfl, k4, by show z.2.length ≤ 600; omega⟩
    | true =>
      obtain ⟨c5, t, e5, k5, l5⟩ := turned_dr k4 z.2 ([[59], [32], [120], [59, 32, 49], [45]] : List Str) (by omega) (by simp) (fun s hs => by
        simp at hs
        rcases hs with rfl | rfl | rfl | rfl | rfl <;> simp)
      simp only [cond_true, e5, Option.bind_some]
      exact ⟨(c5, t), rfl, k5, by show t.length ≤ 600; omega⟩
theorem names5 : ∀ s, s ∈ ([[97], [98], [99], [100], [101]] : List Str) → s.length = 1 := fun s hs => by
  simp at hs
  rcases hs with rfl | rfl | rfl | rfl | rfl <;> rfl
theorem expr17_dr {c : GCur} (h : CurOk c) : Dr (sL17Expr c) fun s => s.length ≤ 120 := by
  unfold sL17Expr
  simp only [reExpr_eq]
  refine Dr.bind (below_dr h 9) fun c1 x k1 p1 => ?_
  have two : Dr ((sL1Pick c1 ([[97], [98], [99], [100], [101]] : List Str)).bind fun r2 => (Go.Abs.gd (r2.2.length + [32, 43, 32].length)).bind fun _ => (sL1Pick r2.1 ([[97], [98], [99], [100], [101]] : List Str)).bind fun r3 =>
      (Go.Abs.gd ((r2.2 ++ [32, 43, 32]).length + r3.2.length)).bind fun _ => some (r3.1, (r2.2 ++ [32, 43, 32]) ++ r3.2)) fun s => s.length ≤ 120 := by
    refine Dr.bind (pick_dr k1 _ (by simp)) fun c2 s k2 p2 => ?_
    have ls := names5 s p2
    refine Dr.gd (by simp; omega) (Dr.bind (pick_dr k2 _ (by simp)) fun c3 t k3 p3 => ?_)
    have lt := names5 t p3
    exact Dr.gd (by simp; omega) (.ret k3 (by simp; omega))
  refine Dr.bif (fun _ => two) fun _ => Dr.bif (fun _ => two) fun _ => Dr.bif (fun _ => ?_) fun _ => Dr.bif (fun _ => ?_) fun _ => Dr.bif (fun _ => ?_) fun _ => Dr.bif (fun _ => ?_) fun _ => Dr.bif (fun _ => ?_) fun _ => ?_
  · refine Dr.bind (pick_dr k1 _ (by simp)) fun c2 s k2 p2 => ?_
    have ls := names5 s p2
    exact Dr.gd (by simp; omega) (.ret k2 (by simp; omega))
  · refine Dr.bind (below_dr k1 3) fun c2 y k2 p2 => ?_
    have := p2.2 (by omega)
    obtain ⟨t, e5, l5, _⟩ := sFormatInt_ok y p2.1 (by omega)
    refine Dr.pbind (P := fun s => s.length ≤ 19) ⟨t, e5, l5⟩ fun t l5 => Dr.gd (by simp; omega) (Dr.gd (by simp; omega) (Dr.bind (pick_dr k2 _ (by simp)) fun c3 s k3 p3 => ?_))
    have ls := names5 s p3
    exact Dr.gd (by simp; omega) (Dr.gd (by simp; omega) (.ret k3 (by simp; omega)))
  · refine Dr.bind (pick_dr k1 _ (by simp)) fun c2 s k2 p2 => ?_
    have ls := names5 s p2
    exact Dr.gd (by simp; omega) (Dr.gd (by simp; omega) (.ret k2 (by simp; omega)))
  · refine Dr.bind (pick_dr k1 _ (by simp)) fun c2 s k2 p2 => .ret k2 ?_
    simp at p2
    rcases p2 with rfl | rfl | rfl | rfl | rfl <;> simp
  · refine Dr.bind (pick_dr k1 _ (by simp)) fun c2 s k2 p2 => .ret k2 ?_
    simp at p2
    rcases p2 with rfl | rfl | rfl | rfl | rfl | rfl | rfl | rfl | rfl <;> simp
  · refine Dr.bind (make_dr 2 k1 ⟨by simp, fun s hs => by rw [names5 s hs]; omega⟩ (by simp) (by omega)) fun c2 e k2 p2 => ?_
    obtain ⟨t, e3, l3⟩ := sFormatExpr_ok e p2
    refine Dr.pbind (P := fun s => s.length ≤ 2640) ⟨t, e3, l3⟩ fun t l3 => Dr.bif (fun _ => .ret k2 (by simp)) fun hle => .ret k2 ?_
    simp at hle; omega
theorem cell_fit {id v k n : Int} {nm cd : Str} (h1 : -1000000000 ≤ id ∧ id ≤ 1000000000) (h2 : -1000000000 ≤ v ∧ v ≤ 1000000000) (h3 : -1000000000 ≤ k ∧ k ≤ 1000000000) (h4 : nm.length ≤ 1000) (h5 : cd.length ≤ 1000) (h6 : -1000000000 ≤ n ∧ n ≤ 1000000000) :
    Fit B20 (.base .cell) (GCell.mk id v k nm cd n) := by
  rw [fit_cell]
  exact ⟨intB h1.1 h1.2, intB h2.1 h2.2, intB h3.1 h3.2, strB (by show nm.length ≤ _; omega), strB (by show cd.length ≤ _; omega), intB h6.1 h6.2⟩
/-- a drawn cell -/
structure CellD (id : Int) (x : GCell) : Prop where
  fit : Fit B20 (.base .cell) x
  id : x.id = id
  v0 : 1 ≤ x.version
  v3 : x.version ≤ 3
  name : x.name.length ≤ 1
  code : x.code.length ≤ 600
  n0 : 0 ≤ x.n
  n9 : x.n ≤ 9
  k0 : 1 ≤ x.kind
  k4 : x.kind ≤ 4
theorem cellD {id v k n : Int} {nm cd : Str} (h1 : 0 ≤ id ∧ id ≤ 1000000) (h2 : 1 ≤ v ∧ v ≤ 3) (h3 : 1 ≤ k ∧ k ≤ 4) (h4 : nm.length ≤ 1) (h5 : cd.length ≤ 600) (h6 : 0 ≤ n ∧ n ≤ 9) : CellD id (GCell.mk id v k nm cd n) :=
  ⟨cell_fit (by omega) (by omega) (by omega) (by omega) (by omega) (by omega), rfl, h2.1, h2.2, h4, h5, h6.1, h6.2, h3.1, h3.2⟩
theorem cell_dr {c : GCur} (h : CurOk c) (id : Int) (h0 : 0 ≤ id) (h1 : id ≤ 1000000) : Dr (sL17Cell c id) (CellD id) := by
  unfold sL17Cell
  refine Dr.bind (below_dr h 3) fun c1 x k1 p1 => Dr.bind (pickInt_dr k1 _ (by simp)) fun c2 k k2 p2 => Dr.bind (pick_dr k2 _ (by simp)) fun c3 nm k3 p3 => ?_
  have hx := p1.2 (by omega)
  have ln := names5 nm p3
  have hk : 1 ≤ k ∧ k ≤ 4 := by
    simp at p2
    omega
  have hw : w64 (1 + x) = 1 + x := w64_id (by omega) (by omega)
  have hx0 := p1.1
  simp only [hw]
  refine Dr.bif (fun _ => ?_) fun _ => Dr.bif (fun _ => ?_) fun _ => Dr.bif (fun _ => ?_) fun _ => Dr.bif (fun _ => ?_) fun _ => ?_
  · refine Dr.bind (pick_dr k3 _ (by simp)) fun c4 s k4 p4 => .ret k4 (cellD ⟨h0, h1⟩ (by omega) hk (by simp) ?_ (by omega))
    simp at p4
    rcases p4 with rfl | rfl | rfl <;> simp
  · exact Dr.bind (expr17_dr k3) fun c4 s k4 p4 => .ret k4 (cellD ⟨h0, h1⟩ (by omega) hk (by show nm.length ≤ 1; omega) (by show s.length ≤ 600; omega) (by omega))
  · refine Dr.bind (below_dr k3 9) fun c4 y k4 p4 => .ret k4 (cellD ⟨h0, h1⟩ (by omega) hk (by show nm.length ≤ 1; omega) (by simp) ?_)
    have := p4.2 (by omega)
    exact ⟨p4.1, by show y ≤ 9; omega⟩
  · exact Dr.bind (data_dr k3) fun c4 s k4 p4 => .ret k4 (cellD ⟨h0, h1⟩ (by omega) hk (by show nm.length ≤ 1; omega) p4 (by omega))
  · exact .ret k3 (cellD ⟨h0, h1⟩ (by omega) hk (by show nm.length ≤ 1; omega) (by simp) (by omega))
end Go.Proofs.YtjpmhfhcbehgcaaGreat
