/- Plain laws of the functions that mark a value and look for the marks. -/
import Derived.Test.YtjpmhfhcbehgcaaGreatPlain3
set_option linter.unusedSimpArgs false
set_option linter.unusedVariables false
namespace Go.Proofs.YtjpmhfhcbehgcaaGreat
open Go.Abs Go.Proofs


/-- Marking the value writes 'n' marks, and they are found again. -/
def MkOk {α : Type} (mark : α → Int → Option (α × Int)) (held : α → Int → Option Int) (x : α) (n : Nat) : Prop :=
  ∀ k : Int, 0 ≤ k → k + n ≤ 4611686018427387904 → ∃ y, mark x k = some (y, k + n) ∧ held y k = some (k + n)

theorem markList_ok {α : Type} {mk : List α → Int → Option (List α × Int)} {hd : List α → Int → Option Int} {g : List α × Int × Int → Option ((List α × Int × Int) ⊕ (List α × Int))} {g' : List α × Int × Int → Option ((List α × Int × Int) ⊕ Int)}
    (hmk : ∀ xs k, mk xs k = loopD g (xs, 0, k)) (hhd : ∀ xs k, hd xs k = loopD g' (xs, k, 0)) (cnt : α → Nat) (P : α → Prop)
    (hstep : ∀ (xs : List α) (i : Nat) (x : α) (k : Int), xs[i]? = some x → P x → xs.length < 4611686018427387904 → 0 ≤ k → k + cnt x ≤ 4611686018427387904 → ∃ y, g (xs, (i : Int), k) = some (.inl (xs.set i y, ((i + 1 : Nat) : Int), k + cnt x)) ∧
      ∀ ys : List α, ys.length < 4611686018427387904 → ys[i]? = some y → g' (ys, k, (i : Int)) = some (.inl (ys, k + cnt x, ((i + 1 : Nat) : Int))))
    (hend : ∀ (xs : List α) (k : Int), g (xs, (xs.length : Int), k) = some (.inr (xs, k))) (hend' : ∀ (xs : List α) (k : Int), g' (xs, k, (xs.length : Int)) = some (.inr k))
    (xs : List α) (hP : ∀ x, x ∈ xs → P x) (hl : xs.length < 4611686018427387904) : MkOk mk hd xs ((xs.map cnt).sum) := by
  have key : ∀ (n : Nat) (xs : List α) (i : Nat) (k : Int), i + n = xs.length → xs.length < 4611686018427387904 → (∀ x, x ∈ xs.drop i → P x) → 0 ≤ k → k + ((xs.drop i).map cnt).sum ≤ 4611686018427387904 →
      ∃ ys, loopD g (xs, (i : Int), k) = some (ys, k + ((xs.drop i).map cnt).sum) ∧ ys.length = xs.length ∧ (∀ j, j < i → ys[j]? = xs[j]?) ∧ loopD g' (ys, k, (i : Int)) = some (k + ((xs.drop i).map cnt).sum) := by
    intro n
    induction n with
    | zero =>
      intro xs i k hi hl hP h0 hk
      have hi' : i = xs.length := by omega
      subst hi'
      have hd0 : xs.drop xs.length = [] := List.drop_length
      rw [hd0]
      refine ⟨xs, ?_, rfl, fun _ _ => rfl, ?_⟩
      · rw [loopD_eq, hend]; simp
      · rw [loopD_eq, hend']; simp
    | succ n ih =>
      intro xs i k hi hl hP h0 hk
      have hil : i < xs.length := by omega
      have hx : xs[i]? = some xs[i] := List.getElem?_eq_getElem hil
      have hdr : xs.drop i = xs[i] :: xs.drop (i + 1) := List.drop_eq_getElem_cons hil
      rw [hdr] at hP hk ⊢
      simp only [List.map_cons, List.sum_cons] at hk ⊢
      have hcast : ((cnt xs[i] + ((xs.drop (i + 1)).map cnt).sum : Nat) : Int) = (cnt xs[i] : Int) + (((xs.drop (i + 1)).map cnt).sum : Nat) := by omega
      rw [hcast] at hk ⊢
      obtain ⟨y, hg, hg'⟩ := hstep xs i xs[i] k hx (hP _ List.mem_cons_self) hl h0 (by omega)
      have hds : (xs.set i y).drop (i + 1) = xs.drop (i + 1) := by
        rw [List.drop_set]; rw [if_pos (by omega)]
      obtain ⟨ys, e1, e2, e3, e4⟩ := ih (xs.set i y) (i + 1) (k + cnt xs[i]) (by simp; omega) (by simpa using hl) (by rw [hds]; exact fun x hx => hP x (List.mem_cons_of_mem _ hx)) (by omega) (by rw [hds]; omega)
      rw [hds] at e1 e4
      have hyl : ys.length = xs.length := by rw [e2]; simp
      refine ⟨ys, ?_, hyl, fun j hj => ?_, ?_⟩
      · rw [loopD_eq, hg]
        simp only
        rw [e1, Int.add_assoc]
      · rw [e3 j (by omega), List.getElem?_set, if_neg (by omega)]
      · have hyi : ys[i]? = some y := by
          rw [e3 i (by omega), List.getElem?_set, if_pos rfl, if_pos hil]
        rw [loopD_eq, hg' ys (by omega) hyi]
        simp only
        rw [e4, Int.add_assoc]
  intro k h0 hk
  obtain ⟨ys, e1, _, _, e4⟩ := key xs.length xs 0 k (by omega) hl (by simpa using hP) h0 (by simpa using hk)
  refine ⟨ys, ?_, ?_⟩
  · rw [hmk]; simpa using e1
  · rw [hhd]; simpa using e4

/-- the same for functions by fuel -/
theorem markListI {α ι : Type} {J : ι → Prop} {mk : ι → List α → Int → Option (List α × Int)} {hd : ι → List α → Int → Option Int} {g : ι → List α × Int × Int → Option ((List α × Int × Int) ⊕ (List α × Int))} {g' : ι → List α × Int × Int → Option ((List α × Int × Int) ⊕ Int)}
    (hmk : ∀ j, J j → ∀ xs k, mk j xs k = loopD (g j) (xs, 0, k)) (hhd : ∀ j, J j → ∀ xs k, hd j xs k = loopD (g' j) (xs, k, 0)) (cnt : α → Nat) (P : α → Prop) (Q : α → α → Prop)
    (hstep : ∀ (xs : List α) (i : Nat) (x : α) (k : Int), xs[i]? = some x → P x → xs.length < 4611686018427387904 → 0 ≤ k → k + cnt x ≤ 4611686018427387904 → ∃ y, Q x y ∧ ∀ j, J j → g j (xs, (i : Int), k) = some (.inl (xs.set i y, ((i + 1 : Nat) : Int), k + cnt x)) ∧
      ∀ ys : List α, ys.length < 4611686018427387904 → ys[i]? = some y → g' j (ys, k, (i : Int)) = some (.inl (ys, k + cnt x, ((i + 1 : Nat) : Int))))
    (hend : ∀ j, J j → ∀ (xs : List α) (k : Int), g j (xs, (xs.length : Int), k) = some (.inr (xs, k))) (hend' : ∀ j, J j → ∀ (xs : List α) (k : Int), g' j (xs, k, (xs.length : Int)) = some (.inr k))
    (xs : List α) (hP : ∀ x, x ∈ xs → P x) (hl : xs.length < 4611686018427387904) (k : Int) (h0 : 0 ≤ k) (hk : k + (xs.map cnt).sum ≤ 4611686018427387904) :
    ∃ ys, ys.length = xs.length ∧ (∀ (i : Nat) (x y : α), xs[i]? = some x → ys[i]? = some y → Q x y) ∧ ∀ j, J j → mk j xs k = some (ys, k + (xs.map cnt).sum) ∧ hd j ys k = some (k + (xs.map cnt).sum) := by
  have key : ∀ (n : Nat) (xs : List α) (i : Nat) (k : Int), i + n = xs.length → xs.length < 4611686018427387904 → (∀ x, x ∈ xs.drop i → P x) → 0 ≤ k → k + ((xs.drop i).map cnt).sum ≤ 4611686018427387904 →
      ∃ ys, ys.length = xs.length ∧ (∀ j, j < i → ys[j]? = xs[j]?) ∧ (∀ (p : Nat) (x y : α), i ≤ p → xs[p]? = some x → ys[p]? = some y → Q x y) ∧ ∀ j, J j → loopD (g j) (xs, (i : Int), k) = some (ys, k + ((xs.drop i).map cnt).sum) ∧ loopD (g' j) (ys, k, (i : Int)) = some (k + ((xs.drop i).map cnt).sum) := by
    intro n
    induction n with
    | zero =>
      intro xs i k hi hl hP h0 hk
      have hi' : i = xs.length := by omega
      subst hi'
      have hd0 : xs.drop xs.length = [] := List.drop_length
      rw [hd0]
      refine ⟨xs, rfl, fun _ _ => rfl, fun p x y hp hx => ?_, fun j hj => ⟨?_, ?_⟩⟩
      · have := (List.getElem?_eq_some_iff.1 hx).1; omega
      · rw [loopD_eq, hend j hj]; simp
      · rw [loopD_eq, hend' j hj]; simp
    | succ n ih =>
      intro xs i k hi hl hP h0 hk
      have hil : i < xs.length := by omega
      have hx : xs[i]? = some xs[i] := List.getElem?_eq_getElem hil
      have hdr : xs.drop i = xs[i] :: xs.drop (i + 1) := List.drop_eq_getElem_cons hil
      rw [hdr] at hP hk ⊢
      simp only [List.map_cons, List.sum_cons] at hk ⊢
      have hcast : ((cnt xs[i] + ((xs.drop (i + 1)).map cnt).sum : Nat) : Int) = (cnt xs[i] : Int) + (((xs.drop (i + 1)).map cnt).sum : Nat) := by omega
      rw [hcast] at hk ⊢
      obtain ⟨y, hQ, hgg⟩ := hstep xs i xs[i] k hx (hP _ List.mem_cons_self) hl h0 (by omega)
      have hds : (xs.set i y).drop (i + 1) = xs.drop (i + 1) := by
        rw [List.drop_set]; rw [if_pos (by omega)]
      obtain ⟨ys, e2, e3, eQ, e1⟩ := ih (xs.set i y) (i + 1) (k + cnt xs[i]) (by simp; omega) (by simpa using hl) (by rw [hds]; exact fun x hx => hP x (List.mem_cons_of_mem _ hx)) (by omega) (by rw [hds]; omega)
      rw [hds] at e1
      have hyl : ys.length = xs.length := by rw [e2]; simp
      have hyi : ys[i]? = some y := by
        rw [e3 i (by omega), List.getElem?_set, if_pos rfl, if_pos hil]
      refine ⟨ys, hyl, fun j hj => ?_, fun p x z hp hxp hzp => ?_, fun j hj => ⟨?_, ?_⟩⟩
      · rw [e3 j (by omega), List.getElem?_set, if_neg (by omega)]
      · by_cases hpi : p = i
        · subst hpi
          rw [hyi] at hzp
          rw [hx] at hxp
          cases hzp; cases hxp
          exact hQ
        · exact eQ p x z (by omega) (by rw [List.getElem?_set, if_neg (by omega)]; exact hxp) hzp
      · rw [loopD_eq, (hgg j hj).1]
        simp only
        rw [(e1 j hj).1, Int.add_assoc]
      · rw [loopD_eq, (hgg j hj).2 ys (by omega) hyi]
        simp only
        rw [(e1 j hj).2, Int.add_assoc]
  obtain ⟨ys, e1, _, e3, e4⟩ := key xs.length xs 0 k (by omega) hl (by simpa using hP) h0 (by simpa using hk)
  refine ⟨ys, e1, fun i x y => e3 i x y (Nat.zero_le _), fun j hj => ⟨?_, ?_⟩⟩
  · rw [hmk j hj]; simpa using (e4 j hj).1
  · rw [hhd j hj]; simpa using (e4 j hj).2
theorem idx_n {α : Type} (xs : List α) (i : Nat) : idx xs (i : Int) = xs[i]? := idx_nat xs i
theorem set_get {α : Type} {xs : List α} {i : Nat} {x y : α} (h : xs[i]? = some x) : (xs.set i y)[i]? = some y := by
  rw [List.getElem?_set, if_pos rfl, if_pos (List.getElem?_eq_some_iff.1 h).1]
theorem dec_lt {α : Type} {xs : List α} {i : Nat} {x : α} (h : xs[i]? = some x) : decide ((i : Int) < (xs.length : Int)) = true := by
  have := (List.getElem?_eq_some_iff.1 h).1
  simpa using this
theorem dec_set {α : Type} {xs : List α} {i j : Nat} {x y : α} (h : xs[i]? = some x) : decide ((i : Int) < ((xs.set j y).length : Int)) = true := by
  rw [List.length_set]; exact dec_lt h
theorem w_succ {α : Type} {xs : List α} {i : Nat} {x : α} (h : xs[i]? = some x) (hl : xs.length < 4611686018427387904) : w64 ((i : Int) + 1) = ((i + 1 : Nat) : Int) := by
  have := (List.getElem?_eq_some_iff.1 h).1
  rw [w64_id (by omega) (by omega)]; omega
theorem bne_self_i (a : Int) : (a != a) = false := by simp
theorem nbeq_self_s (a : Str) : (!(a == a)) = false := by simp
end Go.Proofs.YtjpmhfhcbehgcaaGreat
