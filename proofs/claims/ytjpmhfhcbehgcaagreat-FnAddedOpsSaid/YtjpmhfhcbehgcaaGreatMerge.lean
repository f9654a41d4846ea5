/- Plain laws: merged logs. -/
import Derived.Test.YtjpmhfhcbehgcaaGreatExpr1
import Derived.Test.YtjpmhfhcbehgcaaGreatLtOp2
set_option linter.unusedSimpArgs false
set_option linter.unusedVariables false
namespace Go.Proofs.YtjpmhfhcbehgcaaGreat
open Go.Abs Go.Proofs

/-! one operation is put into its place -/
def putOp (y : GOp) : List GOp → List GOp
  | [] => [y]
  | x :: r => bif ltOp x y then x :: putOp y r else y :: x :: r
theorem putOp_eq (y : GOp) : ∀ (s : List GOp) (j : Nat), j ≤ s.length → (∀ x, x ∈ s.take j → ltOp x y = true) → (∀ x, s[j]? = some x → ltOp x y = false) → s.take j ++ [y] ++ s.drop j = putOp y s
  | [], j, _, _, _ => by simp [putOp]
  | x :: r, 0, _, _, h => by
    have := h x rfl
    simp [putOp, this]
  | x :: r, j + 1, hj, h1, h2 => by
    have e := h1 x (by simp)
    have ih := putOp_eq y r j (by simpa using hj) (fun z hz => h1 z (by simp [hz])) (fun z hz => h2 z (by simpa using hz))
    simp only [putOp, e, cond_true, List.take_succ_cons, List.drop_succ_cons, List.cons_append]
    rw [← ih]
theorem putOp_perm (y : GOp) : ∀ s : List GOp, (putOp y s).Perm (y :: s)
  | [] => .refl _
  | x :: r => by
    cases h : ltOp x y with
    | true => simp only [putOp, h, cond_true]; exact ((putOp_perm y r).cons x).trans (.swap _ _ _)
    | false => simp only [putOp, h, cond_false]; exact .refl _
theorem putOp_sorted (y : GOp) : ∀ s : List GOp, s.Pairwise (fun a b => ltOp a b = true) → (∀ x, x ∈ s → keyOp x y = false) → (putOp y s).Pairwise (fun a b => ltOp a b = true)
  | [], _, _ => List.pairwise_singleton _ _
  | x :: r, h, hk => by
    have h' := List.pairwise_cons.1 h
    cases e : ltOp x y with
    | true =>
      simp only [putOp, e, cond_true]
      refine List.pairwise_cons.2 ⟨fun z hz => ?_, putOp_sorted y r h'.2 fun z hz => hk z (by simp [hz])⟩
      rcases List.mem_cons.1 ((putOp_perm y r).mem_iff.1 hz) with rfl | hz
      · exact e
      · exact h'.1 z hz
    | false =>
      simp only [putOp, e, cond_false]
      have hyx := ltOp_tri e (hk x (by simp))
      refine List.pairwise_cons.2 ⟨fun z hz => ?_, h⟩
      rcases List.mem_cons.1 hz with rfl | hz
      · exact hyx
      · exact swo_ltOp.trans _ _ _ hyx (h'.1 z hz)

/-- the log that is being made, one operation more: as the program adds it, and as the reference does -/
def insI (out : List GOp) (y : GOp) : List GOp := bif out.any (keyOp · y) then out else out ++ [y]
def insS (out : List GOp) (y : GOp) : List GOp := bif out.any (keyOp · y) then out else putOp y out
theorem perm_any {α : Type} {s t : List α} (h : s.Perm t) (p : α → Bool) : s.any p = t.any p := by
  cases e : t.any p with
  | true =>
    obtain ⟨x, hx, hp⟩ := List.any_eq_true.1 e
    exact List.any_eq_true.2 ⟨x, h.mem_iff.2 hx, hp⟩
  | false =>
    rw [List.any_eq_false] at e ⊢
    exact fun x hx => e x (h.mem_iff.1 hx)
theorem ins_both : ∀ (l s t : List GOp), s.Perm t → s.Pairwise (fun a b => ltOp a b = true) → (l.foldl insS s).Perm (l.foldl insI t) ∧ (l.foldl insS s).Pairwise (fun a b => ltOp a b = true)
  | [], s, t, h, hs => ⟨h, hs⟩
  | y :: l, s, t, h, hs => by
    simp only [List.foldl_cons]
    have e := perm_any h (keyOp · y)
    unfold insS insI
    rw [e]
    cases hk : t.any (keyOp · y) with
    | true => exact ins_both l s t h hs
    | false =>
      refine ins_both l _ _ ?_ (putOp_sorted y s hs fun x hx => ?_)
      · exact (putOp_perm y s).trans ((h.cons y).trans (List.perm_append_singleton y t).symm)
      · rw [hk] at e
        have := List.any_eq_false.1 e x hx
        simpa using this
theorem insI_sub : ∀ (l t : List GOp), (l.foldl insI t).Sublist (t ++ l)
  | [], t => by simp
  | y :: l, t => by
    simp only [List.foldl_cons]
    refine (insI_sub l _).trans ?_
    unfold insI
    cases t.any (keyOp · y) with
    | true => exact List.Sublist.append_left (List.sublist_cons_self y l) t
    | false => simp only [cond_false, List.append_assoc, List.cons_append, List.nil_append]; exact List.Sublist.refl _
/-- two logs, merged -/
def mergeL (a b : List GOp) : List GOp := (a ++ b).foldl insS []
theorem mergeL_perm (a b : List GOp) : (mergeL a b).Perm ((a ++ b).foldl insI []) := (ins_both _ _ _ (.refl _) .nil).1
theorem mergeL_sorted (a b : List GOp) : (mergeL a b).Pairwise (fun a b => ltOp a b = true) := (ins_both (a ++ b) [] [] (.refl _) .nil).2
theorem mergeL_len (a b : List GOp) : (mergeL a b).length ≤ a.length + b.length := by
  rw [(mergeL_perm a b).length_eq]
  have := (insI_sub (a ++ b) []).length_le
  simpa using this
theorem mergeL_mem {a b : List GOp} {x : GOp} (h : x ∈ mergeL a b) : x ∈ a ∨ x ∈ b := by
  have := (insI_sub (a ++ b) []).subset ((mergeL_perm a b).mem_iff.1 h)
  simpa using this
theorem mergeL_sum (f : GOp → Nat) (a b : List GOp) : ((mergeL a b).map f).sum ≤ (a.map f).sum + (b.map f).sum := by
  have h1 : ((mergeL a b).map f).sum = (((a ++ b).foldl insI []).map f).sum := ((mergeL_perm a b).map f).sum_nat
  have h2 := sub_sum f (insI_sub (a ++ b) [])
  rw [List.nil_append, List.map_append, List.sum_append] at h2
  omega

/-! the program's and the reference's loops -/
theorem of_exv {ρ : Type} {z : Option ρ} {v : ρ} (h : ∃ r, z = some r ∧ r = v) : z = some v := by
  obtain ⟨r, e, rfl⟩ := h
  exact e
theorem any_take {α : Type} {s : List α} {j : Nat} {x : α} (h : s[j]? = some x) (p : α → Bool) : (s.take (j + 1)).any p = ((s.take j).any p || p x) := by
  rw [take_snoc h, List.any_append]; simp
theorem place_any (a : List GOp) (b : GOp) (h : a.length < lim) : ∃ r, sL42Place a b = some r ∧ decide (r ≥ 0) = a.any (keyOp · b) := by
  unfold sL42Place
  refine list_ex (fun (_ : Unit) (i : Nat) => ((a, b.time, b.by_, b.kind, b.seen, b.edit.kind, b.edit.pos, b.edit.cell.id, b.edit.cell.version, b.edit.cell.kind, b.edit.cell.name, b.edit.cell.code, b.edit.cell.n, b.src, b.dst, b.cell, b.version, b.reads, (i : Int)) : (List GOp) × Int × Int × Int × (List Int) × Int × Int × Int × Int × Int × Str × Str × Int × Str × Str × Int × Int × (List GRead) × Int)) a (fun i _ => (a.take i).any (keyOp · b) = false) (fun r => decide (r ≥ 0) = a.any (keyOp · b)) (fun i x s hx hI => ?_) (fun s hI => ?_) () (by simp)
  · simp only [dec_lt hx, cond_true, idx_nat, hx, Option.bind_some, w_succ hx h]
    have ha := any_take hx (keyOp · b)
    rw [hI, Bool.false_or] at ha
    unfold keyOp at ha
    cases e1 : (x.time == b.time) with
    | false => exact .inl ⟨(), rfl, by rw [e1] at ha; exact ha⟩
    | true => cases e2 : (x.by_ == b.by_) with
      | false => exact .inl ⟨(), rfl, by rw [e1, e2] at ha; exact ha⟩
      | true =>
        refine .inr ⟨_, rfl, ?_⟩
        have : a.any (keyOp · b) = true := List.any_eq_true.2 ⟨x, List.mem_of_getElem? hx, by simp [keyOp, e1, e2]⟩
        rw [this]; simp
  · refine ⟨_, by simp only [nlt_self, cond_false]; rfl, ?_⟩
    rw [List.take_length] at hI
    rw [hI]; rfl
theorem sOpBefore_lt (a b : GOp) : sOpBefore a b = some (ltOp a b) := sOpBefore_ok a b
theorem foldl_take {σ α : Type} (f : σ → α → σ) (z : σ) {xs : List α} {i : Nat} {x : α} (h : xs[i]? = some x) : (xs.take (i + 1)).foldl f z = f ((xs.take i).foldl f z) x := by
  rw [take_snoc h, List.foldl_append]; rfl

theorem sMergeOps_eq (a b : List GOp) (ha : a.length ≤ 1048576) (hb : b.length ≤ 1048576) (pa : ∀ x, x ∈ a → Fit B20 (.base .op) x) (pb : ∀ x, x ∈ b → Fit B20 (.base .op) x) : sMergeOps a b = some (mergeL a b) := by
  unfold sMergeOps mergeL
  rw [gd_ok (by omega), Option.bind_some, gd_ok (by simp; omega), Option.bind_some, List.nil_append]
  have hall : (a ++ b).length ≤ 2097152 := by rw [List.length_append]; omega
  have pall : ∀ x, x ∈ a ++ b → Fit B20 (.base .op) x := fun x hx => by
    rcases List.mem_append.1 hx with hx | hx
    · exact pa x hx
    · exact pb x hx
  generalize a ++ b = all at *
  have hal : all.length < lim := by show all.length < 4611686018427387904; omega
  refine of_exv (list_ex (fun (s : List GOp) (i : Nat) => ((s, all, (i : Int)) : (List GOp) × (List GOp) × Int)) all (fun i s => s.length ≤ i ∧ s = (all.take i).foldl insS []) (fun (w : List GOp) => w = all.foldl insS []) (fun i y s hy hI => .inl ?_) (fun s hI => ?_) [] ⟨Nat.le_refl _, rfl⟩)
  · obtain ⟨hs, es⟩ := hI
    have hi := (List.getElem?_eq_some_iff.1 hy).1
    have py := pall y (List.mem_of_getElem? hy)
    obtain ⟨r, er, hr⟩ := place_any s y (by show s.length < 4611686018427387904; omega)
    have step := foldl_take insS [] hy
    rw [← es] at step
    unfold insS at step
    rw [← hr] at step
    simp only [dec_lt hy, cond_true, idx_nat, hy, Int.toNat_natCast, Option.bind_some, er, w_succ hy hal]
    cases hd : decide (r ≥ 0) with
    | true =>
      rw [hd] at step
      exact ⟨s, rfl, by omega, step.symm⟩
    | false =>
      rw [hd] at step
      have put : ∀ j : Nat, j ≤ s.length → ((cutAt s (j : Int)).bind fun m11 =>
            ((if (j : Int) = (m11 : Int) then some () else none)).bind fun _ =>
            (gd (0 + (s.take m11).length)).bind fun _ =>
            (idx all (i : Int)).bind fun _ =>
            (all[(i : Int).toNat]?).bind fun e13 =>
            (sL41Copy e13).bind fun r14 =>
            (gd (([] ++ (s.take m11)).length + [r14].length)).bind fun _ =>
            ((if (j : Int) = (m11 : Int) then some () else none)).bind fun _ =>
            (gd ((([] ++ (s.take m11)) ++ [r14]).length + (s.drop m11).length)).bind fun _ =>
            some ((.inl ((([] ++ (s.take m11)) ++ [r14]) ++ (s.drop m11), all, ((i + 1 : Nat) : Int))) : ((List GOp) × (List GOp) × Int) ⊕ (List GOp))) = some (.inl (s.take j ++ [y] ++ s.drop j, all, ((i + 1 : Nat) : Int))) := fun j hj => by
        simp only [cutAt_le s j hj, eq_self_iff_true, if_true, Option.bind_some, idx_nat, hy, Int.toNat_natCast, sL41Copy_ok y py]
        rw [gd_ok (by simp; omega), Option.bind_some, gd_ok (by simp; omega), Option.bind_some, gd_ok (by simp; omega), Option.bind_some]
        rfl
      simp only [cond_false]
      refine ⟨putOp y s, ?_, by rw [(putOp_perm y s).length_eq]; simp; omega, step.symm⟩
      refine of_exv (list_ex (fun (_ : Unit) (j : Nat) => ((s, all, (i : Int), (j : Int)) : (List GOp) × (List GOp) × Int × Int)) s (fun j _ => ∀ x, x ∈ s.take j → ltOp x y = true)
          (fun (r : ((List GOp) × (List GOp) × Int) ⊕ (List GOp)) => r = .inl (putOp y s, all, ((i + 1 : Nat) : Int))) (fun j x _ hx hI => ?_) (fun _ hI => ?_) () (by simp))
      · have hj := (List.getElem?_eq_some_iff.1 hx).1
        have pj := put j (by omega)
        simp only [dec_lt hx, cond_true, sOpBefore_lt, w_succ hx (show s.length < 4611686018427387904 by omega), w_succ hy hal]
        rw [pj]
        simp only [idx_nat, hx, hy, Int.toNat_natCast, Option.bind_some]
        cases e : ltOp x y with
        | true =>
          refine .inl ⟨(), rfl, fun z hz => ?_⟩
          rw [take_snoc hx] at hz
          rcases List.mem_append.1 hz with hz | hz
          · exact hI z hz
          · rw [List.mem_singleton.1 hz]; exact e
        | false =>
          refine .inr ⟨_, rfl, ?_⟩
          rw [putOp_eq y s j (by omega) hI (fun z hz => by rw [hx] at hz; cases hz; exact e)]
      · have pj := put s.length (Nat.le_refl _)
        simp only [nlt_self, cond_false, w_succ hy hal]
        rw [pj]
        refine ⟨_, rfl, ?_⟩
        rw [putOp_eq y s s.length (Nat.le_refl _) hI (fun z hz => by rw [List.getElem?_eq_none (Nat.le_refl _)] at hz; cases hz)]
  · simp only [nlt_self, cond_false]
    refine ⟨_, rfl, ?_⟩
    rw [hI.2, List.take_length]


end Go.Proofs.YtjpmhfhcbehgcaaGreat
