import Derived.Test.YtgfjbogcidlaeaaGreatDoorDen4
import Derived.Test.YtgfjbogcidlaeaaGreatDoorSrtReach
import Derived.Lib.SliceRun
/- The walk over impl.SmallestCycle. -/
set_option linter.unusedSimpArgs false
set_option linter.unusedVariables false
namespace Go.Proofs.YtgfjbogcidlaeaaGreatDoor
open Go.Abs Go.Proofs Go.RowKit
def OwL (w : World) (base : Nat) (v : Value) (xs : List Int) : Prop := ∃ fp, Ow w (fun _ _ => False) true (.list (.base .int) xs) v fp /\ ∀ c, fp c -> base <= c /\ c < w.heap.size
theorem OwL.low {w : World} {base base' : Nat} {v : Value} {xs : List Int} (h : OwL w base v xs) (hb : base' <= base) : OwL w base' v xs := by
 obtain ⟨fp, h1, h2⟩ := h
 exact ⟨fp, h1, fun c hc => ⟨Nat.le_trans hb (h2 c hc).1, (h2 c hc).2⟩⟩
theorem OwL.keep {w w' : World} {base : Nat} {v : Value} {xs : List Int} (h : OwL w base v xs) (hB : Below w.heap.size w w') : OwL w' base v xs := by
 obtain ⟨fp, h1, h2⟩ := h
 exact ⟨fp, h1.move (fun _ _ hf => hf.elim) fun b hb => hB.block b (h2 b hb).2, fun c hc => ⟨(h2 c hc).1, Nat.lt_of_lt_of_le (h2 c hc).2 hB.size⟩⟩
theorem OwL.val {w : World} {base : Nat} {v : Value} {xs : List Int} (h : OwL w base v xs) : ∃ ad cap, v = .slice ad xs.length cap /\ (xs ≠ [] -> ad ≠ none) := by
 obtain ⟨fp, h1, h2⟩ := h
 obtain ⟨ad, cap, rfl, h3, h4, h5⟩ := VR h1 (fun c hc => (h2 c hc).1)
 refine ⟨ad, cap, rfl, fun hn => ?_⟩
 have : 0 < xs.length := List.length_pos_iff.2 hn
 obtain ⟨g, off, cur, E, rfl, _⟩ := h5 (by omega)
 simp
theorem OwL.res {w w' : World} {S : Nat -> Nat -> Prop} {v : Value} {xs : List Int} (h : OwL w' w.heap.size v xs) : vF w.heap.size w' S true [⟨false, .list (.base .int)⟩] xs v := by
 obtain ⟨fp, h1, h2⟩ := h
 refine ⟨[v], rfl, fun i c => i = 0 /\ fp c, ⟨?_, trivial⟩, fun i c hc => h2 c hc.2, fun i i2 c h3 h4 => h3.1.trans h4.1.symm⟩
 exact h1.sub (fun b hb => ⟨rfl, hb⟩) id
theorem N8 (ps : List aF) (k : Int) (c : List Int) (h : dI ps k = some c) (w : World) (ha : amb w) (S : Nat -> Nat -> Prop) (v : Value) (hr : Rep w S (.list (.base .part) ps) v) (hS : ∀ b o, S b o -> b < w.heap.size) :
  Calls Tryz.prog 46 #[v, .int .i64 k] w fun e w' => ∃ v, e = .returned v /\ Below w.heap.size w w' /\ OwL w' w.heap.size v c := by
 refine (nI w S [v, .int .i64 k] (ps, k) c h ha ⟨⟨hr, trivial⟩, ⟨Rep.int _ _, trivial⟩⟩ hS).mono ?_
 rintro e w' ⟨v, rfl, hB, us, rfl, fps, hr, hf, _⟩
 rcases us with _ | ⟨u, _ | ⟨u2, r⟩⟩
 ·exact hr.elim
 ·exact ⟨_, rfl, hB, _, hr.1, fun c hc => hf _ c hc⟩
 ·exact hr.elim
theorem aa5 {w : World} {S : Nat -> Nat -> Prop} {t : Ty} {xs : List t.den} {v : Value} (h : Rep w S (.list t xs) v) : ∃ p c, v = .slice p xs.length c := by
 generalize hd : D.list t xs = d at h
 cases h with
 | int => cases hd
 | bool => cases hd
 | str => cases hd
 | nil => cases hd; exact ⟨_, _, rfl⟩
 | emp => cases hd; exact ⟨_, _, rfl⟩
 | list => cases hd; exact ⟨_, _, rfl⟩
structure AtC (ps : List aF) (w : World) (res : List Int) (k : Nat) (v : Value) (best : List Int) (wr : World) : Prop where
 it : uP (dI ps) (ps.length - k) k best = some res
 hk : k <= ps.length
 ow : OwL wr w.heap.size v best
 nil : best = [] -> v = .slice none 0 0
 below : Below w.heap.size w wr
theorem AtC.step {ps : List aF} {w wr : World} {res best : List Int} {k : Nat} {v : Value} (hA : AtC ps w res k v best wr) (hlt : k < ps.length) :
  ∃ c, dI ps (k : Int) = some c /\ uP (dI ps) (ps.length - (k + 1)) ((k + 1 : Nat) : Int) (if 0 < c.length /\ (best = [] \/ c.length < best.length) then c else best) = some res := by
 have h := hA.it
 rw [show ps.length - k = ps.length - (k + 1) + 1 by omega] at h
 unfold uP at h
 obtain ⟨c, h1, h2⟩ := zB.1 h
 exact ⟨c, h1, h2⟩
theorem AtC.take {ps : List aF} {w wr w2 : World} {res best c : List Int} {k : Nat} {v v2 : Value} (hA : AtC ps w res k v best wr) (hlt : k < ps.length) (hit : uP (dI ps) (ps.length - (k + 1)) ((k + 1 : Nat) : Int) (if 0 < c.length /\ (best = [] \/ c.length < best.length) then c else best) = some res)
  (hB : Below wr.heap.size wr w2) (ho : OwL w2 wr.heap.size v2 c) (h : 0 < c.length /\ (best = [] \/ c.length < best.length)) : AtC ps w res (k + 1) v2 c w2 := by
 rw [if_pos h] at hit
 exact ⟨hit, hlt, ho.low hA.below.size, fun hn => by subst hn; exact absurd h.1 (by simp), hA.below.trans (hB.mono hA.below.size)⟩
theorem AtC.skip {ps : List aF} {w wr w2 : World} {res best c : List Int} {k : Nat} {v : Value} (hA : AtC ps w res k v best wr) (hlt : k < ps.length) (hit : uP (dI ps) (ps.length - (k + 1)) ((k + 1 : Nat) : Int) (if 0 < c.length /\ (best = [] \/ c.length < best.length) then c else best) = some res)
  (hB : Below wr.heap.size wr w2) (h : ¬ (0 < c.length /\ (best = [] \/ c.length < best.length))) : AtC ps w res (k + 1) v best w2 := by
 rw [if_neg h] at hit
 exact ⟨hit, hlt, hA.ow.keep hB, hA.nil, hA.below.trans (hB.mono hA.below.size)⟩
set_option maxHeartbeats 600000 in
set_option maxRecDepth 100000 in
theorem Ku (ps : List aF) (res : List Int) (hl : ps.length <= 34359738368) (h : uP (dI ps) ps.length 0 [] = some res) (w : World) (ha : amb w) (S : Nat -> Nat -> Prop) (vp : Option Addr) (vc : Nat) (hr : Rep w S (.list (.base .part) ps) (.slice vp ps.length vc)) (hS : ∀ b o, S b o -> b < w.heap.size) :
  Calls Tryz.prog 26 #[.slice vp ps.length vc] w fun e w' => ∃ v, e = .returned v /\ Below w.heap.size w w' /\ OwL w' w.heap.size v res := by
 have hgo := fun (k : Int) (c : List Int) (hc : dI ps k = some c) (w' : World) (hB2 : Below w.heap.size w w') =>
  N8 ps k c hc w' (amb.keep ha hB2.size fun k hk => hB2.block k (Nat.lt_of_lt_of_le hk ha.size)) S _ (hr.move fun b o hs => ⟨hs, hB2.cell (hS b o hs)⟩) (fun b o hs => Nat.lt_of_lt_of_le (hS b o hs) hB2.size)
 have HG : Hid (∀ (k : Int) (c : List Int), dI ps k = some c -> ∀ (w' : World), Below w.heap.size w w' -> Calls Tryz.prog 46 #[.slice vp ps.length vc, .int .i64 k] w' fun e w'' => ∃ v, e = .returned v /\ Below w'.heap.size w' w'' /\ OwL w'' w'.heap.size v c) := hgo
 have hA0 : AtC ps w res 0 (.slice none 0 0) [] w := ⟨h, Nat.zero_le _, ⟨fun _ => False, Ow.nil _ _, fun _ hc => hc.elim⟩, fun _ => rfl, Below.refl _ _⟩
 clear hgo ha hr hS h
 have q1 : ∀ (w : World) (n c : Nat), (binOp .eql 53 (.slice none n c) (.slice none 0 0)).run Tryz.prog w = .ok (.bool true) w := fun w n c => Lib.run_eql_slice_nil w _ _ none n c 0 0 Tryz.underlying53
 have q2 : ∀ (w : World) (a : Addr) (n c : Nat), (binOp .eql 53 (.slice (some a) n c) (.slice none 0 0)).run Tryz.prog w = .ok (.bool false) w := fun w a n c => Lib.run_eql_slice_nil w _ _ (some a) n c 0 0 Tryz.underlying53
 go_enter Tryz.func26, Tryz.ntmps26
 go_wp2
 go_loopw [3, 8] (fun v i wr => ∃ (k : Nat) (best : List Int), i = .int .i64 k /\ AtC ps w res k v best wr) (fun _ i _ => ps.length - (intOf i).toNat)
 case atStart => exact ⟨0, [], rfl, hA0⟩
 case round =>
  obtain ⟨k, best, rfl, hA⟩ := hrel
  by_cases hlt : k < ps.length
  ·obtain ⟨c, hc, hit⟩ := hA.step hlt
   have hcall := HG.out k c hc wr hA.below
   obtain ⟨ad, cap, rfl, hne⟩ := hA.ow.val
   have HI : Hid (uP (dI ps) (ps.length - (k + 1)) ((k + 1 : Nat) : Int) (if 0 < c.length /\ (best = [] \/ c.length < best.length) then c else best) = some res) := hit
   clear hit hc
   by_cases c1 : 0 < c.length
   ·by_cases c2 : best = []
    ·subst c2
     have := hA.nil rfl
     cases this
     go_wp2_with (go_at_call 46; refine hcall.mono ?_; rintro e w2 ⟨v2, rfl, hB, ho⟩; have HT := hA.take hlt HI.out hB ho ⟨c1, .inl rfl⟩; obtain ⟨ad2, cap2, rfl, hne2⟩ := ho.val; clear hB ho)
     go_roundw
     case rel => exact ⟨k + 1, c, by go_num, HT⟩
     case measure => simp [intOf]; omega
    ·obtain ⟨b, hb⟩ : ∃ b, ad = some b := by
      cases ad with
      | none => exact absurd rfl (hne c2)
      | some b => exact ⟨b, rfl⟩
     subst hb
     by_cases c3 : c.length < best.length
     ·skip
      go_wp2_with (go_at_call 46; refine hcall.mono ?_; rintro e w2 ⟨v2, rfl, hB, ho⟩; have HT := hA.take hlt HI.out hB ho ⟨c1, .inr c3⟩; obtain ⟨ad2, cap2, rfl, hne2⟩ := ho.val; clear hB ho)
      go_roundw
      case rel => exact ⟨k + 1, c, by go_num, HT⟩
      case measure => simp [intOf]; omega
     ·skip
      go_wp2_with (go_at_call 46; refine hcall.mono ?_; rintro e w2 ⟨v2, rfl, hB, ho⟩; have HT := hA.skip hlt HI.out hB (fun h => h.2.elim c2 c3); obtain ⟨ad2, cap2, rfl, hne2⟩ := ho.val; clear hB ho)
      go_roundw
      case rel => exact ⟨k + 1, best, by go_num, HT⟩
      case measure => simp [intOf]; omega
   ·skip
    go_wp2_with (go_at_call 46; refine hcall.mono ?_; rintro e w2 ⟨v2, rfl, hB, ho⟩; have HT := hA.skip hlt HI.out hB (fun h => c1 h.1); obtain ⟨ad2, cap2, rfl, hne2⟩ := ho.val; clear hB ho)
    go_roundw
    case rel => exact ⟨k + 1, best, by go_num, HT⟩
    case measure => simp [intOf]; omega
  ·have hk : k = ps.length := by have := hA.hk; omega
   subst hk
   have hres : best = res := by
    have h := hA.it
    rw [Nat.sub_self] at h
    exact Option.some.inj h
   subst hres
   have HA : Hid (Below w.heap.size w wr /\ OwL wr w.heap.size u3 best) := ⟨hA.below, hA.ow⟩
   clear hA
   go_wp2
   go_ret
   exact ⟨_, rfl, HA.out⟩
theorem wR : Sound Tryz.prog DN := by
 intro w S args x y h ha hr hS
 rcases args with _ | ⟨v, _ | ⟨u2, r⟩⟩
 ·exact hr.elim
 ·have h : kT x = some y := h
  unfold kT at h
  obtain ⟨_, g, h⟩ := zB.1 h
  obtain ⟨vp, vc, rfl⟩ := aa5 hr.1
  refine (Ku x y (fM g) h w ha S vp vc hr.1 hS).mono ?_
  rintro e w' ⟨v, rfl, hB, ho⟩
  exact ⟨_, rfl, hB, ho.res⟩
 ·exact hr.elim
end Go.Proofs.YtgfjbogcidlaeaaGreatDoor
