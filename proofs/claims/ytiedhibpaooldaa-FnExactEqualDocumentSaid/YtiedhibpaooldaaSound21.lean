/- Code and functions. -/
import Derived.Test.YtiedhibpaooldaaSound20
set_option linter.unusedSimpArgs false
set_option linter.unusedVariables false
namespace Go.Abs
open Go.RowKit

def Ex.up : Ex → Exit
  | .normal => .normal
  | .exit id => .exit id
  | .ret => .ret

section code
variable {P : Program} {w0 : Bs} {E : Env} {an : List (Nat × LA)}

theorem loop_sound {c : Code} {ρ : Type} {r : ρ} {la : LA} {f : Its la.its → Option (Its la.its ⊕ ρ)} {n0 : Nat} {x0 : Its la.its} (hn0 : iter f n0 x0 = some r) {G0 : Gh} {a : Act} {w : World} (h0 : Inv w0 G0 (la.put x0) a w)
    {k : Ex → St → Option ρ} {Q : Exit → Act → World → Prop}
    (hround : ∀ (x : Its la.its) (res : Its la.its ⊕ ρ) (a : Act) (w : World) (G : Gh), f x = some res → Inv w0 G (la.put x) a w → ∀ Q' : Exit → Act → World → Prop, (∀ y a' w' G', res = .inl y → Inv w0 G' (la.put y) a' w' → Q' .normal a' w') →
      (∀ (r : ρ) (e : Ex) S' a' w' G', res = .inr r → e ≠ .normal → k e S' = some r → Inv w0 G' S' a' w' → Q' e.up a' w') → c.wp P Q' a w)
    (hQ : ∀ e S' a' w' G', k e S' = some r → Inv w0 G' S' a' w' → Q e.up a' w') : (Code.loop c).wp P Q a w := by
  let J : Nat → Act → World → Prop := fun n a w => ∃ (x : Its la.its) (G : Gh), iter f n x = some r ∧ Inv w0 G (la.put x) a w
  classical
  have least : ∀ {a : Act} {w : World}, (∃ n, J n a w) → ∃ n, J n a w ∧ ∀ m, J m a w → n ≤ m := by
    intro a w ⟨n, hn⟩
    have key : ∀ n, J n a w → ∃ n, J n a w ∧ ∀ m, J m a w → n ≤ m := by
      intro n
      induction n using Nat.strongRecOn with
      | _ n ih =>
        intro hn
        by_cases hex : ∃ m, m < n ∧ J m a w
        · obtain ⟨m, hlt, hm'⟩ := hex
          exact ih m hlt hm'
        · refine ⟨n, hn, fun m hm' => ?_⟩
          rcases Nat.lt_or_ge m n with hl | hl
          · exact absurd ⟨m, hl, hm'⟩ hex
          · exact hl
    exact key n hn
  refine wp_loop (fun a w => ∃ n, J n a w) (fun a w => if hh : ∃ n, J n a w then (least hh).choose else 0) ⟨n0, x0, G0, hn0, h0⟩ ?_
  intro a1 w1 hI
  obtain ⟨hJ, hmin⟩ := (least hI).choose_spec
  rw [dif_pos hI]
  generalize (least hI).choose = n at hJ hmin
  obtain ⟨x, G1, hit, h1⟩ := hJ
  cases n with
  | zero => cases hit
  | succ n =>
    simp only [iter] at hit
    split at hit
    · cases hit
    · rename_i y hy
      refine hround x _ a1 w1 G1 hy h1 _ (fun z a' w' G' hz h' => ?_) (fun r' e S' a' w' G' hr' _ _ _ => by cases hr')
      cases hz
      have hI' : ∃ n, J n a' w' := ⟨n, y, G', hit, h'⟩
      show (∃ n, J n a' w') ∧ _
      refine ⟨hI', ?_⟩
      rw [dif_pos hI']
      have := (least hI').choose_spec.2 n ⟨y, G', hit, h'⟩
      omega
    · rename_i r0 hy
      simp only [Option.some.injEq] at hit
      subst hit
      refine hround x _ a1 w1 G1 hy h1 _ (fun z a' w' G' hz h' => by cases hz) (fun r' e S' a' w' G' hr' hne hk h' => ?_)
      cases hr'
      cases e with
      | normal => exact absurd rfl hne
      | exit id => exact hQ (.exit id) S' a' w' G' hk h'
      | ret => exact hQ .ret S' a' w' G' hk h'

theorem den_sound (hE : EnvOk P E) (hm : P.follows .mixedOrders = true) : ∀ (c : Code) {ρ : Type} {r : ρ} {S : St} {a : Act} {w : World} {G : Gh} {k : Ex → St → Option ρ} {Q : Exit → Act → World → Prop},
    den E an c S k = some r → Inv w0 G S a w → (∀ e S' a' w' G', k e S' = some r → Inv w0 G' S' a' w' → Q e.up a' w') → c.wp P Q a w
  | .skip, ρ, r, S, a, w, G, k, Q, hv, h, hQ => wp_skip (hQ .normal S a w G hv h)
  | .label l, ρ, r, S, a, w, G, k, Q, hv, h, hQ => wp_label (hQ .normal S a w G hv h)
  | .region id ops false, ρ, r, S, a, w, G, k, Q, hv, h, hQ => by
    refine wp_region ?_
    have := opsK_sound (P := P) (w0 := w0) (E := E) (ops := ops) (Q := Q) hE (k := fun S => k .normal S) (fun S' a' w' G' hk h' => hQ .normal S' a' w' G' hk h') (l := ops.toList) (i := 0) (by simp) hv h
    rw [List.range_eq_range']
    simpa using this
  | .region id ops true, ρ, r, S, a, w, G, k, Q, hv, h, hQ => draw_sound hE hm (k := fun S => k .normal S) hv h fun S' a' w' G' hk h' => hQ .normal S' a' w' G' hk h'
  | .seq x y, ρ, r, S, a, w, G, k, Q, hv, h, hQ => by
    refine wp_seq (den_sound hE hm x (Q := Exit.then (y.wp P Q) Q) hv h fun e S' a' w' G' hk h' => ?_)
    cases e with
    | normal => exact den_sound hE hm y hk h' hQ
    | exit id => exact hQ (.exit id) S' a' w' G' hk h'
    | ret => exact hQ .ret S' a' w' G' hk h'
  | .cond c x y, ρ, r, S, a, w, G, k, Q, hv, h, hQ => by
    simp only [den] at hv
    split at hv
    · rename_i t
      have hv1 := fork_some hv
      have hr := h.getT t
      split at hv1
      · rename_i ht
        rw [ht] at hr
        have hr' : Rep w G.S (.bool true) (a.eval (.tmp t)) := hr
        generalize hvv : a.eval (.tmp t) = vv at hr'
        cases hr'
        exact wp_cond_true hvv (den_sound hE hm x hv1 h hQ)
      · rename_i ht
        rw [ht] at hr
        have hr' : Rep w G.S (.bool false) (a.eval (.tmp t)) := hr
        generalize hvv : a.eval (.tmp t) = vv at hr'
        cases hr'
        exact wp_cond_false hvv (den_sound hE hm y hv1 h hQ)
      · cases hv1
    · cases hv
  | .block id c, ρ, r, S, a, w, G, k, Q, hv, h, hQ => by
    refine wp_block (den_sound hE hm c (Q := Exit.inBlock id Q) hv h fun e S' a' w' G' hk h' => ?_)
    cases e with
    | normal => exact hQ .normal S' a' w' G' hk h'
    | exit i =>
      simp only at hk
      show (if i = id then Q .normal a' w' else Q (.exit i) a' w')
      by_cases hi : i = id
      · rw [if_pos hi] at hk ⊢
        exact hQ .normal S' a' w' G' hk h'
      · rw [if_neg hi] at hk ⊢
        exact hQ (.exit i) S' a' w' G' hk h'
    | ret => exact hQ .ret S' a' w' G' hk h'
  | .loop c, ρ, r, S, a, w, G, k, Q, hv, h, hQ => by
    simp only [den] at hv
    split at hv
    · cases hv
    rename_i la hla
    rw [Rd.runK_eq, Option.bind_eq_some_iff] at hv
    obtain ⟨x0, hx0, hl⟩ := hv
    obtain ⟨n0, hn0⟩ := loopD_iter hl
    obtain ⟨G0, h0⟩ := la_sound h hx0
    refine loop_sound hn0 h0 (fun x res a1 w1 G1 hfx h1 Q' hn he => den_sound hE hm c hfx h1 fun e S' a' w' G' hk h' => ?_) (fun e S' a' w' G' hk h' => hQ e S' a' w' G' hk h')
    cases e with
    | normal =>
      simp only at hk
      rw [Rd.runK_eq, Option.bind_eq_some_iff] at hk
      obtain ⟨z, hz, hk⟩ := hk
      obtain ⟨G2, h2⟩ := la_sound h' hz
      exact hn z a' w' G2 (Option.some.inj hk).symm h2
    | exit id =>
      simp only at hk
      rw [Option.bind_eq_some_iff] at hk
      obtain ⟨r', hk, hr'⟩ := hk
      exact he r' (.exit id) S' a' w' G' (Option.some.inj hr').symm (by simp) hk h'
    | ret =>
      simp only at hk
      rw [Option.bind_eq_some_iff] at hk
      obtain ⟨r', hk, hr'⟩ := hk
      exact he r' .ret S' a' w' G' (Option.some.inj hr').symm (by simp) hk h'
  | .exit id, ρ, r, S, a, w, G, k, Q, hv, h, hQ => wp_exit (hQ (.exit id) S a w G hv h)
  | .ret, ρ, r, S, a, w, G, k, Q, hv, h, hQ => wp_ret (hQ .ret S a w G hv h)
  | .scope c, ρ, r, S, a, w, G, k, Q, hv, h, hQ => by cases hv
  | .goto l, ρ, r, S, a, w, G, k, Q, hv, h, hQ => by cases hv
  | .rangeFunc .., ρ, r, S, a, w, G, k, Q, hv, h, hQ => by cases hv
  | .refuse s, ρ, r, S, a, w, G, k, Q, hv, h, hQ => by cases hv
end code

section functions
variable {P : Program}

theorem encV_rep {G : Gh} {w : World} {n : Nat} {s : Sh} {x : s.t.den} {u : Value} (h : ShR (fun _ d u => Rep w G.S d u) n s x u) : VRep G w (encV s x) u := by
  have key : ∀ {n : Nat} {ds : List D} {vs : List Value}, CellsR (fun _ d u => Rep w G.S d u) n ds vs → CsRep G w (ds.map .d) vs := by
    intro n ds
    induction ds generalizing n with
    | nil => intro vs h; cases vs with
      | nil => trivial
      | cons => exact h.elim
    | cons d ds ih => intro vs h; cases vs with
      | nil => exact h.elim
      | cons v vs => exact ⟨h.1, ih h.2⟩
  unfold ShR at h
  unfold encV
  split at h
  · rename_i hs
    obtain ⟨vs, rfl, hc⟩ := h
    rw [hs]
    exact ⟨vs, rfl, key hc⟩
  · rename_i hs
    rw [hs]
    have hc := key h
    match hcs : (s.t.cells x).map C.d, hc with
    | [c], hc => exact hc.1
theorem encVs_rep {G : Gh} {w : World} : ∀ {n : Nat} {ss : List Sh} {x : Tup ss} {us : List Value}, TupR (fun _ d u => Rep w G.S d u) n ss x us → VsRep G w (encVs ss x) us
  | n, [], x, [], _ => trivial
  | n, [s], x, [u], h => ⟨encV_rep h, trivial⟩
  | n, s :: s' :: r, (x, y), u :: us, h => ⟨encV_rep h.1, encVs_rep h.2⟩

end functions
end Go.Abs
