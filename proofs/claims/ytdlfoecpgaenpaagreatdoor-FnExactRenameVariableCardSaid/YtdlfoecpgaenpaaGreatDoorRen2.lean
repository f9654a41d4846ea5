/- Plain laws: renaming in expressions is alike on both sides. -/
import Derived.Test.YtdlfoecpgaenpaaGreatDoorForm1
set_option linter.unusedSimpArgs false
set_option linter.unusedVariables false
namespace Go.Proofs.YtdlfoecpgaenpaaGreatDoor
open Go.Abs Go.Proofs
def mapFrom {α β : Type} (f : Nat -> α -> β) : Nat -> List α -> List β
 | _, [] => []
 | i, x :: r => f i x :: mapFrom f (i + 1) r
theorem mapFrom_len {α β : Type} (f : Nat -> α -> β) : ∀ (i : Nat) (xs : List α), (mapFrom f i xs).length = xs.length
 | _, [] => rfl
 | i, x :: r => by simp [mapFrom, mapFrom_len f (i + 1) r]
theorem map_run {α β X ρ : Type} {g : X -> Option (X ⊕ ρ)} (pk : List β -> Nat -> X) (xs : List α) (f : Nat -> α -> β) (r : ρ)
  (hs : ∀ i x out, xs[i]? = some x -> out.length = i -> g (pk out i) = some (.inl (pk (out ++ [f i x]) (i + 1))))
  (hf : g (pk (mapFrom f 0 xs) xs.length) = some (.inr r)) : loopD g (pk [] 0) = some r := by
 have key : ∀ (ys : List α) (i : Nat) (out : List β), xs.drop i = ys -> out.length = i -> out ++ mapFrom f i ys = mapFrom f 0 xs -> loopD g (pk out i) = some r := by
  intro ys
  induction ys with
  | nil =>
   intro i out hd hl ho
   have hi : i = xs.length := by
    have h1 := congrArg List.length ho
    have h2 : xs.length <= i := List.drop_eq_nil_iff.1 hd
    rw [mapFrom_len] at h1
    simp [mapFrom] at h1
    omega
   rw [mapFrom, List.append_nil] at ho
   subst hi
   rw [loopD_eq, ho, hf]
  | cons y r' ih =>
   intro i out hd hl ho
   have hx : xs[i]? = some y := by
    have := congrArg (·[0]?) hd
    simpa using this
   rw [loopD_eq, hs i y out hx hl]
   refine ih (i + 1) (out ++ [f i y]) ?_ (by simp [hl]) ?_
   ·have := congrArg List.tail hd
    simpa using this
   ·rw [List.append_assoc]; exact ho
 exact key xs 0 [] rfl rfl rfl
theorem mapFrom_id {α : Type} : ∀ (i : Nat) (xs : List α), mapFrom (fun _ x => x) i xs = xs
 | _, [] => rfl
 | i, x :: r => by rw [mapFrom, mapFrom_id (i + 1) r]
theorem copyI_ok : ∀ (n : Nat) (e : GExpr), siz e < n -> wtE e <= 1048576 -> iCopyExprG n e = some e
 | 0, e, h, _ => absurd h (Nat.not_lt_zero _)
 | n + 1, e, hn, hw => by
  have ih := copyI_ok n
  have hl := wt_len (e := e)
  show iCopyExprB (iCopyExprG n) e = _
  unfold iCopyExprB
  refine map_run (fun (out : List GExpr) (i : Nat) => ((0, 0, [], [], e.kind, e.n, e.text, out, e.args, (e.args.length : Int), (i : Int)) : Int × Int × Str × (List GExpr) × Int × Int × Str × (List GExpr) × (List GExpr) × Int × Int)) e.args (fun _ x => x) e (fun i x out hx ho => ?_) ?_
  ·have hm := List.mem_of_getElem? hx
   have h1 := wt_arg hm
   have hi := (List.getElem?_eq_some_iff.1 hx).1
   simp only [cnt_in hx, cond_true, idx_nat, hx, Option.bind_some, reExpr_eq, ih x (by have := sizX_arg hm; omega) (by omega), cnt_up hx (by omega)]
   rw [gdp (by simp; omega)]
   rfl
  ·simp only [cnt_out, cond_false, mapFrom_id]
   cases e; rfl
theorem copyS_ok : ∀ (n : Nat) (e : GExpr), siz e < n -> wtE e <= 1048576 -> sL10CopyG n e = some e
 | 0, e, h, _ => absurd h (Nat.not_lt_zero _)
 | n + 1, e, hn, hw => by
  have ih := copyS_ok n
  have hl := wt_len (e := e)
  show sL10CopyB (sL10CopyG n) e = _
  unfold sL10CopyB
  refine map_run (fun (out : List GExpr) (i : Nat) => ((e.kind, e.n, e.text, e.args, 0, 0, [], [], e.kind, e.n, e.text, out, (i : Int)) : Int × Int × Str × (List GExpr) × Int × Int × Str × (List GExpr) × Int × Int × Str × (List GExpr) × Int)) e.args (fun _ x => x) e (fun i x out hx ho => ?_) ?_
  ·have hm := List.mem_of_getElem? hx
   have h1 := wt_arg hm
   have hi := (List.getElem?_eq_some_iff.1 hx).1
   simp only [cnt_in hx, cond_true, idx_nat, hx, Option.bind_some, reExpr_eq, ih x (by have := sizX_arg hm; omega) (by omega), cnt_up hx (by omega)]
   rw [gdp (by simp; omega)]
   rfl
  ·simp only [cnt_out, cond_false, mapFrom_id]
   cases e; rfl
theorem iCopyExpr_ok (e : GExpr) (hw : wtE e <= 1048576) : iCopyExpr e = some e := copyI_ok _ e (Nat.lt_succ_self _) hw
theorem sL10Copy_ok (e : GExpr) (hw : wtE e <= 1048576) : sL10Copy e = some e := copyS_ok _ e (Nat.lt_succ_self _) hw
def bindsB (b : Str) (k : Int) (t : Str) : Bool := ((k == 7) || (k == 9)) && (t == b)
def newText (b c : Str) (k : Int) (t : Str) : Str := if ((k == 3) && (t == b)) = true then c else t
mutual
def renE (b c : Str) : GExpr -> GExpr
 | ⟨k, n, t, a⟩ => ⟨k, n, newText b c k t, renL b c (bindsB b k t) 0 a⟩
def renL (b c : Str) (bi : Bool) : Nat -> List GExpr -> List GExpr
 | _, [] => []
 | i, x :: r => (if (bi && decide (0 < i)) = true then x else renE b c x) :: renL b c bi (i + 1) r
end
theorem renL_map (b c : Str) (bi : Bool) : ∀ (i : Nat) (xs : List GExpr), renL b c bi i xs = mapFrom (fun i x => if (bi && decide (0 < i)) = true then x else renE b c x) i xs
 | _, [] => rfl
 | i, x :: r => by rw [renL, mapFrom, renL_map b c bi (i + 1) r]
theorem renE_eq (b c : Str) (e : GExpr) : renE b c e = ⟨e.kind, e.n, newText b c e.kind e.text, renL b c (bindsB b e.kind e.text) 0 e.args⟩ := by cases e; rfl
abbrev RI := Str × Str × Int × Int × Str × (List GExpr) × Int × Int × Str × (List GExpr) × Bool × (List GExpr) × Int × Int
abbrev RS := Str × Str × Int × Int × Str × (List GExpr) × Int × Int × Str × (List GExpr) × Int × Int × Str × (List GExpr) × Int
noncomputable def renBI (rec : GExpr -> Str -> Str -> Option GExpr) : RI -> Option (RI ⊕ GExpr) := (fun (x1 : Str × Str × Int × Int × Str × (List GExpr) × Int × Int × Str × (List GExpr) × Bool × (List GExpr) × Int × Int) =>
      bif (decide (x1.2.2.2.2.2.2.2.2.2.2.2.2.2 < x1.2.2.2.2.2.2.2.2.2.2.2.2.1)) then
       (idx x1.2.2.2.2.2.2.2.2.2.2.2.1 x1.2.2.2.2.2.2.2.2.2.2.2.2.2).bind fun e2 =>
       bif x1.2.2.2.2.2.2.2.2.2.2.1 then
        bif (decide (x1.2.2.2.2.2.2.2.2.2.2.2.2.2 > 0)) then
         (iCopyExpr (reExpr e2)).bind fun r3 =>
         (gd (x1.2.2.2.2.2.2.2.2.2.1.length + [reExpr r3].length)).bind fun _ =>
         some (.inl (x1.1, x1.2.1, x1.2.2.1, x1.2.2.2.1, x1.2.2.2.2.1, x1.2.2.2.2.2.1, x1.2.2.2.2.2.2.1, x1.2.2.2.2.2.2.2.1, x1.2.2.2.2.2.2.2.2.1, x1.2.2.2.2.2.2.2.2.2.1 ++ [reExpr r3], x1.2.2.2.2.2.2.2.2.2.2.1, x1.2.2.2.2.2.2.2.2.2.2.2.1, x1.2.2.2.2.2.2.2.2.2.2.2.2.1, w64 (x1.2.2.2.2.2.2.2.2.2.2.2.2.2 + 1)))
        else
         (rec (reExpr e2) x1.1 x1.2.1).bind fun r4 =>
         (gd (x1.2.2.2.2.2.2.2.2.2.1.length + [reExpr r4].length)).bind fun _ =>
         some (.inl (x1.1, x1.2.1, x1.2.2.1, x1.2.2.2.1, x1.2.2.2.2.1, x1.2.2.2.2.2.1, x1.2.2.2.2.2.2.1, x1.2.2.2.2.2.2.2.1, x1.2.2.2.2.2.2.2.2.1, x1.2.2.2.2.2.2.2.2.2.1 ++ [reExpr r4], x1.2.2.2.2.2.2.2.2.2.2.1, x1.2.2.2.2.2.2.2.2.2.2.2.1, x1.2.2.2.2.2.2.2.2.2.2.2.2.1, w64 (x1.2.2.2.2.2.2.2.2.2.2.2.2.2 + 1)))
       else
        (rec (reExpr e2) x1.1 x1.2.1).bind fun r5 =>
        (gd (x1.2.2.2.2.2.2.2.2.2.1.length + [reExpr r5].length)).bind fun _ =>
        some (.inl (x1.1, x1.2.1, x1.2.2.1, x1.2.2.2.1, x1.2.2.2.2.1, x1.2.2.2.2.2.1, x1.2.2.2.2.2.2.1, x1.2.2.2.2.2.2.2.1, x1.2.2.2.2.2.2.2.2.1, x1.2.2.2.2.2.2.2.2.2.1 ++ [reExpr r5], x1.2.2.2.2.2.2.2.2.2.2.1, x1.2.2.2.2.2.2.2.2.2.2.2.1, x1.2.2.2.2.2.2.2.2.2.2.2.2.1, w64 (x1.2.2.2.2.2.2.2.2.2.2.2.2.2 + 1)))
      else
       some (.inr (GExpr.mk x1.2.2.2.2.2.2.1 x1.2.2.2.2.2.2.2.1 x1.2.2.2.2.2.2.2.2.1 x1.2.2.2.2.2.2.2.2.2.1))
  )
noncomputable def renBS (rec : GExpr -> Str -> Str -> Option GExpr) : RS -> Option (RS ⊕ GExpr) := (fun (x1 : Str × Str × Int × Int × Str × (List GExpr) × Int × Int × Str × (List GExpr) × Int × Int × Str × (List GExpr) × Int) =>
      bif (decide (x1.2.2.2.2.2.2.2.2.2.2.2.2.2.2 < (x1.2.2.2.2.2.1.length : Int))) then
       bif (x1.2.2.1 == 7) then
        bif (x1.2.2.2.2.2.2.2.2.2.2.2.2.2.2 == 1) then
         bif (x1.2.2.2.2.1 == x1.1) then
          (idx x1.2.2.2.2.2.1 x1.2.2.2.2.2.2.2.2.2.2.2.2.2.2).bind fun e2 =>
          (sL10Copy (reExpr e2)).bind fun r3 =>
          (gd (x1.2.2.2.2.2.2.2.2.2.2.2.2.2.1.length + [reExpr r3].length)).bind fun _ =>
          some (.inl (x1.1, x1.2.1, x1.2.2.1, x1.2.2.2.1, x1.2.2.2.2.1, x1.2.2.2.2.2.1, x1.2.2.2.2.2.2.1, x1.2.2.2.2.2.2.2.1, x1.2.2.2.2.2.2.2.2.1, x1.2.2.2.2.2.2.2.2.2.1, x1.2.2.2.2.2.2.2.2.2.2.1, x1.2.2.2.2.2.2.2.2.2.2.2.1, x1.2.2.2.2.2.2.2.2.2.2.2.2.1, x1.2.2.2.2.2.2.2.2.2.2.2.2.2.1 ++ [reExpr r3], w64 (x1.2.2.2.2.2.2.2.2.2.2.2.2.2.2 + 1)))
         else
          (idx x1.2.2.2.2.2.1 x1.2.2.2.2.2.2.2.2.2.2.2.2.2.2).bind fun e4 =>
          (rec (reExpr e4) x1.1 x1.2.1).bind fun r5 =>
          (gd (x1.2.2.2.2.2.2.2.2.2.2.2.2.2.1.length + [reExpr r5].length)).bind fun _ =>
          some (.inl (x1.1, x1.2.1, x1.2.2.1, x1.2.2.2.1, x1.2.2.2.2.1, x1.2.2.2.2.2.1, x1.2.2.2.2.2.2.1, x1.2.2.2.2.2.2.2.1, x1.2.2.2.2.2.2.2.2.1, x1.2.2.2.2.2.2.2.2.2.1, x1.2.2.2.2.2.2.2.2.2.2.1, x1.2.2.2.2.2.2.2.2.2.2.2.1, x1.2.2.2.2.2.2.2.2.2.2.2.2.1, x1.2.2.2.2.2.2.2.2.2.2.2.2.2.1 ++ [reExpr r5], w64 (x1.2.2.2.2.2.2.2.2.2.2.2.2.2.2 + 1)))
        else
         (idx x1.2.2.2.2.2.1 x1.2.2.2.2.2.2.2.2.2.2.2.2.2.2).bind fun e6 =>
         (rec (reExpr e6) x1.1 x1.2.1).bind fun r7 =>
         (gd (x1.2.2.2.2.2.2.2.2.2.2.2.2.2.1.length + [reExpr r7].length)).bind fun _ =>
         some (.inl (x1.1, x1.2.1, x1.2.2.1, x1.2.2.2.1, x1.2.2.2.2.1, x1.2.2.2.2.2.1, x1.2.2.2.2.2.2.1, x1.2.2.2.2.2.2.2.1, x1.2.2.2.2.2.2.2.2.1, x1.2.2.2.2.2.2.2.2.2.1, x1.2.2.2.2.2.2.2.2.2.2.1, x1.2.2.2.2.2.2.2.2.2.2.2.1, x1.2.2.2.2.2.2.2.2.2.2.2.2.1, x1.2.2.2.2.2.2.2.2.2.2.2.2.2.1 ++ [reExpr r7], w64 (x1.2.2.2.2.2.2.2.2.2.2.2.2.2.2 + 1)))
       else
       bif (x1.2.2.1 == 9) then
        bif (x1.2.2.2.2.2.2.2.2.2.2.2.2.2.2 == 1) then
         bif (x1.2.2.2.2.1 == x1.1) then
          (idx x1.2.2.2.2.2.1 x1.2.2.2.2.2.2.2.2.2.2.2.2.2.2).bind fun e8 =>
          (sL10Copy (reExpr e8)).bind fun r9 =>
          (gd (x1.2.2.2.2.2.2.2.2.2.2.2.2.2.1.length + [reExpr r9].length)).bind fun _ =>
          some (.inl (x1.1, x1.2.1, x1.2.2.1, x1.2.2.2.1, x1.2.2.2.2.1, x1.2.2.2.2.2.1, x1.2.2.2.2.2.2.1, x1.2.2.2.2.2.2.2.1, x1.2.2.2.2.2.2.2.2.1, x1.2.2.2.2.2.2.2.2.2.1, x1.2.2.2.2.2.2.2.2.2.2.1, x1.2.2.2.2.2.2.2.2.2.2.2.1, x1.2.2.2.2.2.2.2.2.2.2.2.2.1, x1.2.2.2.2.2.2.2.2.2.2.2.2.2.1 ++ [reExpr r9], w64 (x1.2.2.2.2.2.2.2.2.2.2.2.2.2.2 + 1)))
         else
          (idx x1.2.2.2.2.2.1 x1.2.2.2.2.2.2.2.2.2.2.2.2.2.2).bind fun e10 =>
          (rec (reExpr e10) x1.1 x1.2.1).bind fun r11 =>
          (gd (x1.2.2.2.2.2.2.2.2.2.2.2.2.2.1.length + [reExpr r11].length)).bind fun _ =>
          some (.inl (x1.1, x1.2.1, x1.2.2.1, x1.2.2.2.1, x1.2.2.2.2.1, x1.2.2.2.2.2.1, x1.2.2.2.2.2.2.1, x1.2.2.2.2.2.2.2.1, x1.2.2.2.2.2.2.2.2.1, x1.2.2.2.2.2.2.2.2.2.1, x1.2.2.2.2.2.2.2.2.2.2.1, x1.2.2.2.2.2.2.2.2.2.2.2.1, x1.2.2.2.2.2.2.2.2.2.2.2.2.1, x1.2.2.2.2.2.2.2.2.2.2.2.2.2.1 ++ [reExpr r11], w64 (x1.2.2.2.2.2.2.2.2.2.2.2.2.2.2 + 1)))
        else
         (idx x1.2.2.2.2.2.1 x1.2.2.2.2.2.2.2.2.2.2.2.2.2.2).bind fun e12 =>
         (rec (reExpr e12) x1.1 x1.2.1).bind fun r13 =>
         (gd (x1.2.2.2.2.2.2.2.2.2.2.2.2.2.1.length + [reExpr r13].length)).bind fun _ =>
         some (.inl (x1.1, x1.2.1, x1.2.2.1, x1.2.2.2.1, x1.2.2.2.2.1, x1.2.2.2.2.2.1, x1.2.2.2.2.2.2.1, x1.2.2.2.2.2.2.2.1, x1.2.2.2.2.2.2.2.2.1, x1.2.2.2.2.2.2.2.2.2.1, x1.2.2.2.2.2.2.2.2.2.2.1, x1.2.2.2.2.2.2.2.2.2.2.2.1, x1.2.2.2.2.2.2.2.2.2.2.2.2.1, x1.2.2.2.2.2.2.2.2.2.2.2.2.2.1 ++ [reExpr r13], w64 (x1.2.2.2.2.2.2.2.2.2.2.2.2.2.2 + 1)))
       else
        (idx x1.2.2.2.2.2.1 x1.2.2.2.2.2.2.2.2.2.2.2.2.2.2).bind fun e14 =>
        (rec (reExpr e14) x1.1 x1.2.1).bind fun r15 =>
        (gd (x1.2.2.2.2.2.2.2.2.2.2.2.2.2.1.length + [reExpr r15].length)).bind fun _ =>
        some (.inl (x1.1, x1.2.1, x1.2.2.1, x1.2.2.2.1, x1.2.2.2.2.1, x1.2.2.2.2.2.1, x1.2.2.2.2.2.2.1, x1.2.2.2.2.2.2.2.1, x1.2.2.2.2.2.2.2.2.1, x1.2.2.2.2.2.2.2.2.2.1, x1.2.2.2.2.2.2.2.2.2.2.1, x1.2.2.2.2.2.2.2.2.2.2.2.1, x1.2.2.2.2.2.2.2.2.2.2.2.2.1, x1.2.2.2.2.2.2.2.2.2.2.2.2.2.1 ++ [reExpr r15], w64 (x1.2.2.2.2.2.2.2.2.2.2.2.2.2.2 + 1)))
      else
       some (.inr (GExpr.mk x1.2.2.2.2.2.2.2.2.2.2.1 x1.2.2.2.2.2.2.2.2.2.2.2.1 x1.2.2.2.2.2.2.2.2.2.2.2.2.1 x1.2.2.2.2.2.2.2.2.2.2.2.2.2.1))
  )
theorem iRenamedB_eq (rec) (a : GExpr) (b c : Str) : iRenamedB rec a b c = loopD (renBI rec) (b, c, 0, 0, [], [], a.kind, a.n, newText b c a.kind a.text, [], bindsB b a.kind a.text, a.args, (a.args.length : Int), 0) := by
 unfold iRenamedB newText bindsB
 cases (a.kind == 3) <;> cases (a.kind == 7) <;> cases (a.kind == 9) <;> cases (a.text == b) <;> rfl
theorem sRenamedB_eq (rec) (a : GExpr) (b c : Str) : sL13RenameB rec a b c = loopD (renBS rec) (b, c, a.kind, a.n, a.text, a.args, 0, 0, [], [], a.kind, a.n, newText b c a.kind a.text, [], 0) := by
 unfold sL13RenameB newText
 cases (a.kind == 3) <;> cases (a.text == b) <;> rfl
theorem pos_dec (i : Nat) : decide ((i : Int) > 0) = decide (0 < i) := by
 by_cases h : 0 < i
 ·rw [decide_eq_true h, decide_eq_true (by omega)]
 ·rw [decide_eq_false h, decide_eq_false (by omega)]
theorem renI_ok (b c : Str) : ∀ (n : Nat) (e : GExpr), siz e < n -> wtE e <= 1048576 -> iRenamedG n e b c = some (renE b c e)
 | 0, e, h, _ => absurd h (Nat.not_lt_zero _)
 | n + 1, e, hn, hw => by
  have ih := renI_ok b c n
  have hl := wt_len (e := e)
  show iRenamedB (iRenamedG n) e b c = _
  rw [iRenamedB_eq, renE_eq]
  generalize bindsB b e.kind e.text = bi
  refine map_run (fun (out : List GExpr) (i : Nat) => ((b, c, 0, 0, [], [], e.kind, e.n, newText b c e.kind e.text, out, bi, e.args, (e.args.length : Int), (i : Int)) : RI)) e.args (fun i x => if (bi && decide (0 < i)) = true then x else renE b c x) _ (fun i x out hx ho => ?_) ?_
  ·have hm := List.mem_of_getElem? hx
   have h1 := wt_arg hm
   have hi := (List.getElem?_eq_some_iff.1 hx).1
   have hz := sizX_arg hm
   simp only [renBI, cnt_in hx, cond_true, idx_nat, hx, Option.bind_some, reExpr_eq, ih x (by omega) (by omega), iCopyExpr_ok x (by omega), cnt_up hx (by omega), pos_dec]
   have hg : ∀ y : GExpr, gd (out.length + [y].length) = some () := fun y => gdp (by simp; omega)
   cases bi with
   | false =>
    simp only [cond_false, Bool.false_and, Bool.false_eq_true, if_false, hg, Option.bind_some]
   | true =>
    cases decide (0 < i) with
    | true => simp only [cond_true, Bool.true_and, if_true, hg, Option.bind_some]
    | false => simp only [cond_true, cond_false, Bool.true_and, Bool.false_eq_true, if_false, hg, Option.bind_some]
  ·simp only [renBI, cnt_out, cond_false, renL_map]
theorem renS_ok (b c : Str) : ∀ (n : Nat) (e : GExpr), siz e < n -> wtE e <= 1048576 -> ValidX e -> sL13RenameG n e b c = some (renE b c e)
 | 0, e, h, _, _ => absurd h (Nat.not_lt_zero _)
 | n + 1, e, hn, hw, hv => by
  have ih := renS_ok b c n
  have hl := wt_len (e := e)
  cases hv with
  | mk _ hp hsub =>
  show sL13RenameB (sL13RenameG n) e b c = _
  rw [sRenamedB_eq, renE_eq]
  refine map_run (fun (out : List GExpr) (i : Nat) => ((b, c, e.kind, e.n, e.text, e.args, 0, 0, [], [], e.kind, e.n, newText b c e.kind e.text, out, (i : Int)) : RS)) e.args (fun i x => if (bindsB b e.kind e.text && decide (0 < i)) = true then x else renE b c x) _ (fun i x out hx ho => ?_) ?_
  ·have hm := List.mem_of_getElem? hx
   have h1 := wt_arg hm
   have hi := (List.getElem?_eq_some_iff.1 hx).1
   have hz := sizX_arg hm
   have hone : e.kind = 7 \/ e.kind = 9 -> ((i : Int) == 1) = decide (0 < i) := by
    intro hk
    have := hp.two hk
    by_cases h : 0 < i
    ·have : i = 1 := by omega
     subst this; rfl
    ·have : i = 0 := by omega
     subst this; rfl
   simp only [renBS, cnt_in hx, cond_true, idx_nat, hx, Option.bind_some, reExpr_eq, ih x (by omega) (by omega) (hsub x hm), sL10Copy_ok x (by omega), cnt_up hx (by omega)]
   have hg : ∀ y : GExpr, gd (out.length + [y].length) = some () := fun y => gdp (by simp; omega)
   unfold bindsB
   cases k7 : (e.kind == 7) with
   | true =>
    rw [hone (.inl (eq_of_beq k7))]
    cases decide (0 < i) <;> cases (e.text == b) <;> simp only [cond_true, cond_false, Bool.true_or, Bool.true_and, Bool.and_true, Bool.and_false, Bool.false_and, Bool.false_eq_true, if_true, if_false, hg, Option.bind_some]
   | false =>
    cases k9 : (e.kind == 9) with
    | true =>
     rw [hone (.inr (eq_of_beq k9))]
     cases decide (0 < i) <;> cases (e.text == b) <;> simp only [cond_true, cond_false, Bool.false_or, Bool.true_and, Bool.and_true, Bool.and_false, Bool.false_and, Bool.false_eq_true, if_true, if_false, hg, Option.bind_some]
    | false => simp only [cond_false, Bool.false_or, Bool.false_and, Bool.false_eq_true, if_false, hg, Option.bind_some]
  ·simp only [renBS, cnt_out, cond_false, renL_map]
mutual
theorem renE_wt (b c : Str) (hc : c.length <= 120) : ∀ e : GExpr, wtE (renE b c e) <= wtE e
 | ⟨k, n, t, a⟩ => by
  have h1 := renL_wt b c hc a (bindsB b k t) 0
  show (if (newText b c k t).length <= 120 then 1 else 18446744073709551616) + wtL (renL b c (bindsB b k t) 0 a) <= (if t.length <= 120 then 1 else 18446744073709551616) + wtL a
  have h2 : (if (newText b c k t).length <= 120 then 1 else 18446744073709551616) <= (if t.length <= 120 then 1 else 18446744073709551616) := by
   unfold newText
   split
   ·split <;> omega
   ·exact Nat.le_refl _
  omega
theorem renL_wt (b c : Str) (hc : c.length <= 120) : ∀ (xs : List GExpr) (bi : Bool) (i : Nat), wtL (renL b c bi i xs) <= wtL xs
 | [], _, _ => Nat.le_refl _
 | x :: r, bi, i => by
  have h1 := renE_wt b c hc x
  have h2 := renL_wt b c hc r bi (i + 1)
  show wtE (if (bi && decide (0 < i)) = true then x else renE b c x) + wtL (renL b c bi (i + 1) r) <= wtE x + wtL r
  split <;> omega
end
end Go.Proofs.YtdlfoecpgaenpaaGreatDoor
