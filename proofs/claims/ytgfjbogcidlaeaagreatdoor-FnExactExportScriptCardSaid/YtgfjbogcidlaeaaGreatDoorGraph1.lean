import Derived.Test.YtgfjbogcidlaeaaGreatDoorSplit1
import Derived.Test.YtgfjbogcidlaeaaGreatDoorHas1
import Derived.Test.YtgfjbogcidlaeaaGreatDoorOrder0
/- Plain laws: uses between parts, what they reach: the two programs alike. -/
set_option linter.unusedSimpArgs false
set_option linter.unusedVariables false
namespace Go.Proofs.YtgfjbogcidlaeaaGreatDoor
open Go.Abs Go.Proofs
theorem Bh (xs : List Int) (b : Int) (hl : xs.length <= 1048576) : dX xs b = some (xs.contains b) := by
 unfold dX
 refine jH (bH (fun (_ : Unit) (i : Nat) => ((xs, b, (i : Int)) : (List Int) × Int × Int)) xs (fun i _ => (xs.take i).contains b = false) _ (fun i x _ hx hI => ?_) (fun _ hI => ?_) () rfl)
 ·simp only [bK hx, cond_true, aB, hx, zA, bI hx (by omega)]
  cases hc : (x == b) with
  | true =>
   refine .inr ⟨true, rfl, ?_⟩
   have e : x = b := by simpa using hc
   have := zG hx
   rw [e] at this
   simpa using this
  | false => exact .inl ⟨(), rfl, Ql hx hI hc⟩
 ·rw [List.take_length] at hI
  exact ⟨false, by simp only [bC, cond_false], hI.symm⟩
theorem X9 {σ α : Type} (f : σ -> α -> σ) (z : σ) {xs : List α} {i : Nat} {x : α} (h : xs[i]? = some x) : (xs.take (i + 1)).foldl f z = f ((xs.take i).foldl f z) x := by
 obtain ⟨hi, rfl⟩ := zC.1 h
 rw [List.take_add_one, h, List.foldl_append]
 rfl
theorem ad4 {α : Type} (xs : List α) (n : Nat) (h : n <= xs.length) : eff.cutL xs none (some (n : Int)) = some (xs.take n) := by
 unfold eff.cutL
 simp only [Option.getD_none, Option.getD_some]
 rw [if_pos ⟨by omega, by omega, by omega⟩]
 simp
theorem abT {α : Type} (xs : List α) (n : Nat) (h : n <= xs.length) : eff.cutL xs (some (n : Int)) none = some (xs.drop n) := by
 unfold eff.cutL
 simp only [Option.getD_none, Option.getD_some]
 rw [if_pos ⟨by omega, by omega, by omega⟩]
 simp
theorem VK (xs : List Int) (hl : xs.length <= 1048576) : tJ xs = some (mF xs) := by
 rw [<- aaS]
 unfold tJ
 refine jH (bH (fun (s : List Int) (i : Nat) => ((xs, s, (i : Int)) : (List Int) × (List Int) × Int)) xs (fun i s => s.length <= i /\ s = (xs.take i).foldl La []) _ (fun i y s hy hI => .inl ?_) (fun s hI => ?_) [] ⟨Nat.le_refl _, rfl⟩)
 ·obtain ⟨hs, es⟩ := hI
  have hi := (zC.1 hy).1
  have step := X9 La [] hy
  rw [<- es] at step
  unfold La at step
  simp only [bK hy, cond_true, aB, hy, zA, Bh s y (by omega), bI hy (by omega)]
  cases hd : s.contains y with
  | true =>
   rw [hd, if_pos rfl] at step
   exact ⟨s, rfl, by omega, step.symm⟩
  | false =>
   rw [hd, if_neg (by simp)] at step
   have put : ∀ j : Nat, j <= s.length -> ((eff.cutL s none (some (j : Int))).bind fun r8 =>
           (gd (0 + r8.length)).bind fun _ =>
           (idx xs (i : Int)).bind fun e9 =>
           (gd (([] ++ r8).length + [e9].length)).bind fun _ =>
           (eff.cutL s (some (j : Int)) none).bind fun r10 =>
           (gd ((([] ++ r8) ++ [e9]).length + r10.length)).bind fun _ =>
           some (.inl (xs, (([] ++ r8) ++ [e9]) ++ r10, ((i + 1 : Nat) : Int)) : ((List Int) × (List Int) × Int) ⊕ (List Int))) = some (.inl (xs, s.take j ++ [y] ++ s.drop j, ((i + 1 : Nat) : Int))) := fun j hj => by
    simp only [ad4 s j hj, abT s j hj, zA, aB, hy]
    rw [gdp (by simp; omega), zA, gdp (by simp; omega), zA, gdp (by simp; omega), zA]
    rfl
   simp only [cond_false]
   refine ⟨Du y s, ?_, ?_, step.symm⟩
   ·refine jH (bH (fun (_ : Unit) (j : Nat) => ((xs, s, (i : Int), (j : Int)) : (List Int) × (List Int) × Int × Int)) s (fun j _ => ∀ x, x ∈ s.take j -> x < y) _ (fun j x _ hx hI => ?_) (fun _ hI => ?_) () (by simp))
    ·have hj := (zC.1 hx).1
     have pj := put j (by omega)
     simp only [bK hx, cond_true, bI hx (by omega), bI hy (by omega)]
     rw [pj]
     simp only [aB, hx, hy, Int.toNat_natCast, zA]
     by_cases hlt : x < y
     ·rw [decide_eq_true hlt]
      refine .inl ⟨(), rfl, fun z hz => ?_⟩
      rw [List.take_add_one, hx] at hz
      rcases List.mem_append.1 hz with hz | hz
      ·exact hI z hz
      ·have : z = x := by simpa using hz
       rw [this]; exact hlt
     ·rw [decide_eq_false hlt]
      refine .inr ⟨_, rfl, ?_⟩
      rw [OT y s j (by omega) hI (fun z hz => by rw [hx] at hz; cases hz; exact hlt)]
    ·have pj := put s.length (Nat.le_refl _)
     simp only [bC, cond_false, bI hy (by omega)]
     rw [pj]
     refine ⟨_, rfl, ?_⟩
     rw [OT y s s.length (Nat.le_refl _) hI (fun z hz => by rw [zJ (Nat.le_refl _)] at hz; cases hz)]
   ·have : ∀ s : List Int, (Du y s).length = s.length + 1 := by
     intro s
     induction s with
     | nil => rfl
     | cons z r ih => unfold Du; split <;> simp [ih]
    rw [this]; omega
 ·simp only [bC, cond_false]
  refine ⟨_, rfl, ?_⟩
  rw [hI.2, List.take_length]
def wH (ps : List aF) (s : Str) : Option Int := if 0 <= mV (cO s 0 ps) then some (mV (cO s 0 ps)) else none
noncomputable def bW (ps : List aF) (i : Int) : List Int := if 0 <= i then match ps[i.toNat]? with
  | some p => mF ((kZ p).filterMap (wH ps))
  | none => []
 else []
theorem QV {ps : List aF} {us : List Str} {k : Int} (h : k ∈ us.filterMap (wH ps)) : 0 <= k /\ k < (ps.length : Int) := by
 obtain ⟨s, _, h2⟩ := List.mem_filterMap.1 h
 unfold wH at h2
 split at h2
 ·rename_i h0
  cases h2
  obtain ⟨m, e, hm⟩ := adI ps s h0
  rw [e]; omega
 ·cases h2
theorem EZ {ps : List aF} {us : List Str} {i : Nat} {s : Str} (h : us[i]? = some s) : (us.take (i + 1)).filterMap (wH ps) = if 0 <= mV (cO s 0 ps) then (us.take i).filterMap (wH ps) ++ [mV (cO s 0 ps)] else (us.take i).filterMap (wH ps) := by
 rw [List.take_add_one, h, List.filterMap_append]
 unfold wH
 split <;> simp_all
theorem Wy (ps : List aF) (i : Nat) (p : aF) (h : ps[i]? = some p) : bW ps (i : Int) = mF ((kZ p).filterMap (wH ps)) := by
 unfold bW
 rw [if_pos (by omega), Int.toNat_natCast, h]
theorem gok (ps : List aF) : GOk (bW ps) ps.length where
 rng := fun i k h => by
  unfold bW at h
  split at h
  ·split at h
   ·exact QV ((GV _ _).1 h)
   ·cases h
  ·cases h
 srt := fun i => by
  unfold bW
  split
  ·split
   ·exact wo _
   ·exact .nil
  ·exact .nil
theorem MF (ps : List aF) (hl : ps.length <= 1000) (us : List Str) (hu : us.length <= 1000) : uF (us.filterMap (wH ps)) = some (mF (us.filterMap (wH ps))) /\ tJ (us.filterMap (wH ps)) = some (mF (us.filterMap (wH ps))) := by
 have hfl := List.length_filterMap_le (wH ps) us
 refine ⟨?_, VK _ (by omega)⟩
 unfold uF DF
 rw [gdp (by omega), zA, if_pos]
 rw [List.all_eq_true]
 intro k hk
 have := QV hk
 unfold abH
 rw [decide_eq_true (by omega), decide_eq_true (by omega)]
 rfl
theorem Ai (ps : List aF) (hl : ps.length <= 1000) (hp : ∀ p, p ∈ ps -> zh p) (i : Int) : fA ps i = some (bW ps i) := by
 unfold fA
 by_cases h0 : i < 0
 ·rw [decide_eq_true h0, cond_true]
  unfold bW
  rw [if_neg (by omega)]
 rw [decide_eq_false h0, cond_false]
 obtain ⟨n, rfl⟩ : ∃ n : Nat, i = (n : Int) := ⟨i.toNat, by omega⟩
 by_cases h1 : (n : Int) >= (ps.length : Int)
 ·rw [decide_eq_true h1, cond_true]
  unfold bW
  rw [if_pos (by omega), Int.toNat_natCast, zJ (by omega)]
 rw [decide_eq_false h1, cond_false]
 obtain ⟨p, hx⟩ : ∃ p, ps[n]? = some p := ⟨_, zF (by omega)⟩
 obtain ⟨u1, u2, u3⟩ := Vz p (hp p (zG hx))
 obtain ⟨q1, q2⟩ := MF ps hl (kZ p) u3
 rw [aB, hx, zA, rD, u1, zA, Wy ps n p hx]
 refine jH (bH (fun (out : List Int) (j : Nat) => ((ps, out, kZ p, ((kZ p).length : Int), (j : Int)) : (List aF) × (List Int) × (List Str) × Int × Int)) (kZ p) (fun j out => out = ((kZ p).take j).filterMap (wH ps)) _ (fun j s out hs hI => .inl ?_) (fun out hI => ?_) [] rfl)
 ·have hj := (zC.1 hs).1
  have hol : out.length <= j := by
   rw [hI]
   have := List.length_filterMap_le (wH ps) ((kZ p).take j)
   rw [List.length_take] at this
   omega
  have hg : ∀ n : Int, gd (out.length + [n].length) = some () := fun n => gdp (by simp; omega)
  have hft := EZ (ps := ps) hs
  rw [<- hI] at hft
  simp only [bK hs, cond_true, aB, hs, Int.toNat_natCast, zA, abC ps s (by omega), hg, bI hs (by omega)]
  by_cases hr : 0 <= mV (cO s 0 ps)
  ·rw [decide_eq_true (show mV (cO s 0 ps) >= 0 from hr)]
   exact ⟨_, rfl, by rw [hft, if_pos hr]⟩
  ·rw [decide_eq_false (show ¬ mV (cO s 0 ps) >= 0 from hr)]
   exact ⟨_, rfl, by rw [hft, if_neg hr]⟩
 ·rw [List.take_length] at hI
  subst hI
  simp only [bC, cond_false, q1, zA]
  exact ⟨_, rfl, rfl⟩
theorem Uw (ps : List aF) (hl : ps.length <= 1000) (hp : ∀ p, p ∈ ps -> zh p) (i : Int) : kG ps i = some (bW ps i) := by
 unfold kG
 have hw : w64 ((ps.length : Int) - 1) = (ps.length : Int) - 1 := bG (by omega) (by omega)
 rw [hw, iQ, zA]
 by_cases h0 : i < 0
 ·rw [decide_eq_false (show ¬ i >= 0 by omega)]
  unfold bW
  rw [if_neg (by omega)]; rfl
 obtain ⟨n, rfl⟩ : ∃ n : Nat, i = (n : Int) := ⟨i.toNat, by omega⟩
 by_cases h1 : (n : Int) >= (ps.length : Int)
 ·rw [decide_eq_false (show ¬ (n : Int) <= (ps.length : Int) - 1 by omega), Bool.and_false]
  unfold bW
  rw [if_pos (by omega), Int.toNat_natCast, zJ (by omega)]; rfl
 rw [decide_eq_true (show (n : Int) >= 0 by omega), decide_eq_true (show (n : Int) <= (ps.length : Int) - 1 by omega)]
 simp only [Bool.and_self, Bool.not_true, cond_false]
 obtain ⟨p, hx⟩ : ∃ p, ps[n]? = some p := ⟨_, zF (by omega)⟩
 obtain ⟨u1, u2, u3⟩ := Vz p (hp p (zG hx))
 obtain ⟨q1, q2⟩ := MF ps hl (kZ p) u3
 rw [aB, hx, zA, rD, u2, zA, Wy ps n p hx]
 refine jH (bH (fun (out : List Int) (j : Nat) => ((ps, out, kZ p, (j : Int)) : (List aF) × (List Int) × (List Str) × Int)) (kZ p) (fun j out => out = ((kZ p).take j).filterMap (wH ps)) _ (fun j s out hs hI => .inl ?_) (fun out hI => ?_) [] rfl)
 ·have hj := (zC.1 hs).1
  have hol : out.length <= j := by
   rw [hI]
   have := List.length_filterMap_le (wH ps) ((kZ p).take j)
   rw [List.length_take] at this
   omega
  have hg : ∀ n : Int, gd (out.length + [n].length) = some () := fun n => gdp (by simp; omega)
  have hft := EZ (ps := ps) hs
  rw [<- hI] at hft
  simp only [bK hs, cond_true, aB, hs, Int.toNat_natCast, zA, VL ps s (by omega), hg, bI hs (by omega)]
  by_cases hr : 0 <= mV (cO s 0 ps)
  ·rw [decide_eq_true (show mV (cO s 0 ps) >= 0 from hr)]
   exact ⟨_, rfl, by rw [hft, if_pos hr]⟩
  ·rw [decide_eq_false (show ¬ mV (cO s 0 ps) >= 0 from hr)]
   exact ⟨_, rfl, by rw [hft, if_neg hr]⟩
 ·rw [List.take_length] at hI
  subst hI
  simp only [bC, cond_false, q2, zA]
  exact ⟨_, rfl, rfl⟩
end Go.Proofs.YtgfjbogcidlaeaaGreatDoor
/- Plain laws: all uses and cycles: the two programs alike. -/
set_option linter.unusedSimpArgs false
set_option linter.unusedVariables false
namespace Go.Proofs.YtgfjbogcidlaeaaGreatDoor
open Go.Abs Go.Proofs
structure Ps (ps : List aF) : Prop where
 len : ps.length <= 8
 ok : ∀ p, p ∈ ps -> zh p
theorem Og {xs : List Int} {n : Nat} (hn : n <= 1000) (hl : xs.length <= n) (hr : ∀ x, x ∈ xs -> 0 <= x /\ x < (n : Int)) : uF xs = some (mF xs) /\ tJ xs = some (mF xs) := by
 refine ⟨?_, VK _ (by omega)⟩
 unfold uF DF
 rw [gdp (by omega), zA, if_pos]
 rw [List.all_eq_true]
 intro k hk
 have := hr k hk
 unfold abH
 rw [decide_eq_true (by omega), decide_eq_true (by omega)]
 rfl
theorem yc {D : Int -> List Int} {n : Nat} (h : GOk D n) {i k : Int} (hr : Rch D i k) : 0 <= k /\ k < (n : Int) := by
 cases hr with
 | one h1 => exact h.rng _ _ h1
 | more _ h1 => exact h.rng _ _ h1
theorem abG {ps : List aF} (h : Ps ps) (i : Int) : ∃ l, sH ps i = some l /\ l.Pairwise (· < ·) /\ ∀ x, x ∈ l ↔ Rch (bW ps) i x := by
 have hl := h.len
 obtain ⟨out, e, h1, h2⟩ := Y5 (Do := fA ps) (D := bW ps) (n := ps.length) (by omega) (gok ps) (fun k _ _ => Ai ps (by omega) h.ok k) i
 refine ⟨mF out, ?_, wo _, fun x => by rw [GV, h2]⟩
 unfold sH
 rw [Ai ps (by omega) h.ok, zA, e, zA]
 exact (Og (n := ps.length) (by omega) h1 fun x hx => yc (gok ps) ((h2 x).1 hx)).1
structure Em (D : Int -> List Int) (n : Nat) (i : Int) (j : Nat) (out : List Int) : Prop where
 nd : out.Nodup
 sub : ∀ k, k ∈ out -> Rch D i k
 one : ∀ k, k ∈ D i -> k ∈ out
 more : ∀ k, k ∈ out.take j -> ∀ x, x ∈ D k -> x ∈ out
theorem Em.len {D : Int -> List Int} {n : Nat} {i : Int} {j : Nat} {out : List Int} (h : Em D n i j out) (hG : GOk D n) : out.length <= n := Bl h.nd fun k hk => yc hG (h.sub k hk)
structure Qd (D : Int -> List Int) (n : Nat) (i : Int) (j : Nat) (e : Int) (m : Nat) (old out : List Int) : Prop where
 base : Em D n i j out
 ext : ∃ t, out = old ++ t
 at_ : out[j]? = some e
 got : ∀ x, x ∈ (D e).take m -> x ∈ out
theorem Qd.put {D : Int -> List Int} {n : Nat} {i : Int} {j m : Nat} {e x : Int} {old out : List Int} (h : Qd D n i j e m old out) (hx : (D e)[m]? = some x) (hn : out.contains x = false) : Qd D n i j e (m + 1) old (out ++ [x]) := by
 have hno : x ∉ out := by simpa using hn
 have hj := (zC.1 h.at_).1
 have hxe := zG hx
 have hee := zG h.at_
 refine ⟨⟨?_, fun k hk => ?_, fun k hk => List.mem_append_left _ (h.base.one k hk), fun k hk y hy => ?_⟩, ?_, ?_, fun y hy => ?_⟩
 ·rw [List.nodup_append]
  exact ⟨h.base.nd, by simp, fun a ha b hb => by rw [List.mem_singleton.1 hb]; exact fun q => hno (q ▸ ha)⟩
 ·rcases List.mem_append.1 hk with hk | hk
  ·exact h.base.sub k hk
  ·rw [List.mem_singleton.1 hk]; exact .more (h.base.sub e hee) hxe
 ·rw [List.take_append_of_le_length (by omega)] at hk
  exact List.mem_append_left _ (h.base.more k hk y hy)
 ·obtain ⟨t, rfl⟩ := h.ext
  exact ⟨t ++ [x], by rw [List.append_assoc]⟩
 ·rw [List.getElem?_append_left hj]; exact h.at_
 ·rw [List.take_add_one, hx] at hy
  rcases List.mem_append.1 hy with hy | hy
  ·exact List.mem_append_left _ (h.got y hy)
  ·have : y = x := by simpa using hy
   rw [this]; simp
theorem Qd.pass {D : Int -> List Int} {n : Nat} {i : Int} {j m : Nat} {e x : Int} {old out : List Int} (h : Qd D n i j e m old out) (hx : (D e)[m]? = some x) (hn : out.contains x = true) : Qd D n i j e (m + 1) old out := by
 refine ⟨h.base, h.ext, h.at_, fun y hy => ?_⟩
 rw [List.take_add_one, hx] at hy
 rcases List.mem_append.1 hy with hy | hy
 ·exact h.got y hy
 ·have : y = x := by simpa using hy
  rw [this]; simpa using hn
theorem Qd.done {D : Int -> List Int} {n : Nat} {i : Int} {j : Nat} {e : Int} {old out : List Int} (h : Qd D n i j e (D e).length old out) : Em D n i (j + 1) out := by
 refine ⟨h.base.nd, h.base.sub, h.base.one, fun k hk x hx => ?_⟩
 rw [List.take_add_one, h.at_] at hk
 rcases List.mem_append.1 hk with hk | hk
 ·exact h.base.more k hk x hx
 ·have : k = e := by simpa using hk
  subst this
  exact h.got x (by rw [List.take_length]; exact hx)
theorem Em.start {D : Int -> List Int} {n : Nat} (hG : GOk D n) (i : Int) : Em D n i 0 (D i) := ⟨I7 (hG.srt i), fun k hk => .one hk, fun k hk => hk, fun k hk => by simp at hk⟩
theorem Em.end_ {D : Int -> List Int} {n : Nat} {i : Int} {out : List Int} (h : Em D n i out.length out) (x : Int) : x ∈ out ↔ Rch D i x :=
 Rch.closed h.sub h.one (fun k hk => h.more k (by rw [List.take_length]; exact hk)) x
open Classical in
noncomputable def sO (ps : List aF) (i : Int) : Bool := decide (Rch (bW ps) i i)
theorem Ws {ps : List aF} {i : Int} {l : List Int} (h : ∀ x, x ∈ l ↔ Rch (bW ps) i x) : l.contains i = sO ps i := by
 classical
 unfold sO
 by_cases hr : Rch (bW ps) i i
 ·rw [decide_eq_true hr]; simpa using (h i).2 hr
 ·rw [decide_eq_false hr]
  have : i ∉ l := fun hm => hr ((h i).1 hm)
  simpa using this
theorem ab6 {ps : List aF} {i : Int} {l : List Int} (hs : l.Pairwise (· < ·)) (h : ∀ x, x ∈ l ↔ Rch (bW ps) i x) : l.length <= ps.length := Bl (I7 hs) fun x hx => yc (gok ps) ((h x).1 hx)
theorem abE {ps : List aF} (h : Ps ps) (i : Int) : rX ps i = some (sO ps i) := by
 obtain ⟨l, e, hs, hm⟩ := abG h i
 have := ab6 hs hm
 have := h.len
 unfold rX
 rw [e, zA, F7 l i (by omega), zA, Ws hm]
end Go.Proofs.YtgfjbogcidlaeaaGreatDoor
/- Plain laws: the smallest cycle is there where there is a cycle. -/
set_option linter.unusedSimpArgs false
set_option linter.unusedVariables false
namespace Go.Proofs.YtgfjbogcidlaeaaGreatDoor
open Go.Abs Go.Proofs
theorem CB (ps : List aF) (i : Int) : (bW ps i).length <= ps.length := (gok ps).len i
structure Far (n : Nat) (b : Int) (out : List Int) : Prop where
 len : out.length = n
 le : ∀ x, x ∈ out -> x <= b
theorem Zv {α : Type} {l : List α} {k : Nat} {a x : α} (h : x ∈ l.set k a) : x ∈ l \/ x = a := by
 rcases List.mem_or_eq_of_mem_set h with h | h
 ·exact .inl h
 ·exact .inr h
theorem Far.set {n : Nat} {b : Int} {out : List Int} (h : Far n b out) (k : Nat) {x : Int} (hx : x <= b) : Far n b (out.set k x) := by
 refine ⟨by rw [List.length_set]; exact h.len, fun y hy => ?_⟩
 rcases Zv hy with hy | rfl
 ·exact h.le y hy
 ·exact hx
theorem Far.mono {n : Nat} {b b' : Int} {out : List Int} (h : Far n b out) (hb : b <= b') : Far n b' out := ⟨h.len, fun x hx => Int.le_trans (h.le x hx) hb⟩
end Go.Proofs.YtgfjbogcidlaeaaGreatDoor
/- Plain law: IsExportable alike on both sides. -/
set_option linter.unusedSimpArgs false
set_option linter.unusedVariables false
namespace Go.Proofs.YtgfjbogcidlaeaaGreatDoor
open Go.Abs Go.Proofs
def SY (ps : List aF) (p : aF) : Bool := (p.kind != 1) && decide (((cO p.name 0 ps).length : Int) > 1)
end Go.Proofs.YtgfjbogcidlaeaaGreatDoor
/- Plain laws: the order of what can be run, and ExportScript, alike on both sides. -/
set_option linter.unusedSimpArgs false
set_option linter.unusedVariables false
namespace Go.Proofs.YtgfjbogcidlaeaaGreatDoor
open Go.Abs Go.Proofs
noncomputable def bJ (ps : List aF) (i : Int) : Bool := if 0 <= i then match ps[i.toNat]? with
  | some p => (p.kind == 2 || p.kind == 3) && !SY ps p && !sO ps i
  | none => false
 else false
theorem FY {ps : List aF} {j : Nat} {p : aF} (h : ps[j]? = some p) : bJ ps (j : Int) = ((p.kind == 2 || p.kind == 3) && !SY ps p && !sO ps (j : Int)) := by
 unfold bJ
 rw [if_pos (by omega), Int.toNat_natCast, h]
theorem o8 {ps : List aF} {i : Int} (h : bJ ps i = true) : 0 <= i /\ i < (ps.length : Int) := by
 unfold bJ at h
 split at h
 ·rename_i h0
  split at h
  ·rename_i p hp
   have := (zC.1 hp).1
   omega
  ·cases h
 ·cases h
theorem Y1 {ps : List aF} {i : Int} (h : bJ ps i = true) : ¬ Rch (bW ps) i i := by
 classical
 have hr := o8 h
 obtain ⟨j, rfl⟩ : ∃ j : Nat, i = (j : Int) := ⟨i.toNat, by omega⟩
 obtain ⟨p, hp⟩ : ∃ p, ps[j]? = some p := ⟨_, zF (by omega)⟩
 rw [FY hp] at h
 simp only [zI, Bool.not_eq_true'] at h
 have := h.2
 unfold sO at this
 simpa using this
theorem ZV {ps : List aF} (h : Ps ps) {j : Nat} {p : aF} (hp : ps[j]? = some p) : kU ps (j : Int) = some (SY ps p) := by
 have hl := h.len
 have hj := (zC.1 hp).1
 unfold kU SY
 rw [decide_eq_true (show (j : Int) >= 0 by omega), decide_eq_true (show (j : Int) < (ps.length : Int) by omega)]
 simp only [cond_true, aB, hp, zA, Wq ps p.name (by omega)]
 cases (p.kind != 1) <;> rfl
theorem aal (ps : List aF) (s : Str) : (mV (cO s 0 ps) == -2) = decide (((cO s 0 ps).length : Int) > 1) := by
 have hm := uO s ps 0
 generalize cO s 0 ps = l at hm
 match l, hm with
 | [], _ => rfl
 | [x], hm =>
  have := hm x (by simp)
  have h1 : (mV [x] == -2) = false := by
   have : mV [x] = x := rfl
   rw [this]
   simp; omega
  rw [h1]; rfl
 | x :: y :: r, _ =>
  have h1 : decide (((x :: y :: r).length : Int) > 1) = true := by simp; omega
  rw [h1]; rfl
theorem YU {ps : List aF} (h : Ps ps) {j : Nat} {p : aF} (hp : ps[j]? = some p) : nP ps (j : Int) = some (SY ps p) := by
 have hl := h.len
 have hj := (zC.1 hp).1
 unfold nP SY
 have hw : w64 ((ps.length : Int) - 1) = (ps.length : Int) - 1 := bG (by omega) (by omega)
 rw [hw, iQ, decide_eq_true (show (j : Int) >= 0 by omega), decide_eq_true (show (j : Int) <= (ps.length : Int) - 1 by omega)]
 simp only [Bool.and_self, zA, cond_true, aB, hp, VL ps p.name (by omega), aal]
 cases (p.kind != 1) <;> rfl
theorem Wn {ps : List aF} (h : Ps ps) (i : Int) : kJ ps i = some (bJ ps i) := by
 have hl := h.len
 unfold kJ
 by_cases h0 : i >= 0
 case neg =>
  rw [decide_eq_false h0]
  unfold bJ
  rw [if_neg (by omega)]; rfl
 obtain ⟨j, rfl⟩ : ∃ j : Nat, i = (j : Int) := ⟨i.toNat, by omega⟩
 by_cases h1 : (j : Int) < (ps.length : Int)
 case neg =>
  rw [decide_eq_true h0, decide_eq_false h1]
  unfold bJ
  rw [if_pos (by omega), Int.toNat_natCast, zJ (by omega)]; rfl
 obtain ⟨p, hp⟩ : ∃ p, ps[j]? = some p := ⟨_, zF (by omega)⟩
 rw [decide_eq_true h0, decide_eq_true h1, FY hp]
 simp only [cond_true, aB, hp, zA, ZV h hp, abE h]
 cases (p.kind == 2) <;> cases (p.kind == 3) <;> cases SY ps p <;> cases sO ps (j : Int) <;> rfl
theorem SE {p : Int -> Bool} {xs : List Int} {i : Nat} {x : Int} (h : xs[i]? = some x) : (xs.take (i + 1)).filter p = if p x = true then (xs.take i).filter p ++ [x] else (xs.take i).filter p := by
 rw [List.take_add_one, h, List.filter_append]
 cases hp : p x <;> simp [hp]
theorem RU {ps : List aF} (h : Ps ps) (i : Int) : jP ps i = some ((bW ps i).filter (bJ ps)) := by
 have hl := h.len
 have hd := CB ps i
 unfold jP
 rw [Ai ps (by omega) h.ok, zA]
 refine jH (bH (fun (s : List Int) (j : Nat) => ((ps, s, bW ps i, ((bW ps i).length : Int), (j : Int)) : (List aF) × (List Int) × (List Int) × Int × Int)) (bW ps i) (fun j s => s = ((bW ps i).take j).filter (bJ ps)) _ (fun j x s hx hI => .inl ?_) (fun s hI => ?_) [] rfl)
 ·have hj := (zC.1 hx).1
  have hsl : s.length <= j := by
   rw [hI]
   have := List.length_filter_le (bJ ps) ((bW ps i).take j)
   rw [List.length_take] at this
   omega
  have hft := SE (p := bJ ps) hx
  rw [<- hI] at hft
  simp only [bK hx, cond_true, aB, hx, Int.toNat_natCast, zA, Wn h, bI hx (by omega), gdp (show s.length + [x].length <= 34359738368 by simp; omega)]
  cases hr : bJ ps x with
  | true => rw [hr, if_pos rfl] at hft; exact ⟨_, rfl, hft.symm⟩
  | false => rw [hr, if_neg (by simp)] at hft; exact ⟨_, rfl, hft.symm⟩
 ·rw [List.take_length] at hI
  exact ⟨s, by simp only [bC, cond_false], hI⟩
theorem X5 (xs out : List Int) (hx : xs.length <= 1000) (ho : out.length <= 1000) : JG xs out = some (xs.all fun x => out.contains x) := by
 unfold JG
 refine jH (bH (fun (_ : Unit) (j : Nat) => ((out, xs, (xs.length : Int), (j : Int)) : (List Int) × (List Int) × Int × Int)) xs (fun j _ => (xs.take j).all (fun x => out.contains x) = true) _ (fun j x _ hx2 hI => ?_) (fun _ hI => ?_) () rfl)
 ·simp only [bK hx2, cond_true, aB, hx2, zA, F7 out x (by omega), bI hx2 (by omega)]
  cases hc : out.contains x with
  | true =>
   refine .inl ⟨(), rfl, ?_⟩
   rw [List.take_add_one, hx2, List.all_append, hI]
   simpa using hc
  | false =>
   refine .inr ⟨false, rfl, ?_⟩
   symm
   rw [List.all_eq_false]
   exact ⟨x, zG hx2, by rw [hc]; simp⟩
 ·rw [List.take_length] at hI
  exact ⟨true, by simp only [bC, cond_false], hI.symm⟩
theorem all_filter (p q : Int -> Bool) : ∀ l : List Int, (l.filter p).all q = l.all fun x => !p x || q x
 | [] => rfl
 | x :: r => by
  rw [List.filter_cons, List.all_cons, <- all_filter p q r]
  cases p x <;> simp
noncomputable def IA (ps : List aF) : List Int := zT (bJ ps) (bW ps) ps.length ps.length []
theorem rC {ps : List aF} {out : List Int} {j : Nat} (h : ∀ k, k < j -> iY (bJ ps) (bW ps) out (k : Int) = false) (hj : iY (bJ ps) (bW ps) out (j : Int) = false) : ∀ k, k < j + 1 -> iY (bJ ps) (bW ps) out (k : Int) = false := fun k hk => by
 by_cases e : k = j
 ·subst e; exact hj
 ·exact h k (by omega)
theorem VZ {ps : List aF} {out : List Int} {j : Nat} (hj : j < ps.length) (h : ∀ k, k < j -> iY (bJ ps) (bW ps) out (k : Int) = false) (hr : iY (bJ ps) (bW ps) out (j : Int) = true) : jf (bJ ps) (bW ps) out ps.length = some j := by
 unfold jf
 rw [List.find?_range_eq_some]
 exact ⟨hr, List.mem_range.2 hj, fun k hk => by rw [h k hk]; rfl⟩
theorem VY {ps : List aF} {out : List Int} (h : ∀ k, k < ps.length -> iY (bJ ps) (bW ps) out (k : Int) = false) : jf (bJ ps) (bW ps) out ps.length = none := by
 unfold jf
 rw [List.find?_eq_none]
 intro k hk
 rw [h k (List.mem_range.1 hk)]; simp
structure Ej (ps : List aF) (m : Nat) (out : List Int) : Prop where
 ok : vH (bJ ps) ps.length out
 eq : zT (bJ ps) (bW ps) ps.length m out = IA ps
 fuel : m + out.length = ps.length
theorem Ej.start (ps : List aF) : Ej ps ps.length [] := ⟨⟨.nil, fun k hk => by cases hk⟩, rfl, by simp⟩
theorem Ej.len {ps : List aF} {m : Nat} {out : List Int} (h : Ej ps m out) : out.length <= fV (bJ ps) ps.length := h.ok.len fun k hk => o8 hk
theorem Ej.step {ps : List aF} {m j : Nat} {out : List Int} (h : Ej ps m out) (hn : jf (bJ ps) (bW ps) out ps.length = some j) : ∃ m', m = m' + 1 /\ Ej ps m' (out ++ [(j : Int)]) := by
 have h2 := h.ok.snoc (IU hn).2.1
 have h3 := h2.len fun k hk => o8 hk
 have h4 := rq (bJ ps) ps.length
 have hf := h.fuel
 simp only [List.length_append, List.length_cons, List.length_nil] at h3
 cases m with
 | zero => omega
 | succ m' =>
  refine ⟨m', rfl, h2, ?_, by simp; omega⟩
  rw [<- h.eq]
  show _ = (match jf (bJ ps) (bW ps) out ps.length with
   | none => out
   | some k => zT (bJ ps) (bW ps) ps.length m' (out ++ [(k : Int)]))
  rw [hn]
theorem Ej.stop {ps : List aF} {m : Nat} {out : List Int} (h : Ej ps m out) (hn : jf (bJ ps) (bW ps) out ps.length = none) : out = IA ps := by
 rw [<- h.eq]
 cases m with
 | zero => rfl
 | succ m' =>
  show out = (match jf (bJ ps) (bW ps) out ps.length with
   | none => out
   | some k => zT (bJ ps) (bW ps) ps.length m' (out ++ [(k : Int)]))
  rw [hn]
theorem XZ {ps : List aF} (h : Ps ps) : yw ps = some (IA ps) := by
 have hl := h.len
 unfold yw
 refine jH (I8 (fun m (x : (List aF) × (List Int)) => ∃ out, x = (ps, out) /\ Ej ps m out) (fun l => l = IA ps) (fun m x hI => ?_) ps.length (ps, []) ⟨[], rfl, Ej.start ps⟩)
 obtain ⟨out, rfl, hI⟩ := hI
 have hol := hI.len
 have hrn := rq (bJ ps) ps.length
 have hin : ∃ r, ah (fun (x2 : (List aF) × (List Int) × Int) =>
   bif (decide (x2.2.2 < (x2.1.length : Int))) then
    (og x2.2.1 x2.2.2).bind fun r3 =>
    bif r3 then
     some (.inl (x2.1, x2.2.1, w64 (x2.2.2 + 1)))
    else
    (kJ x2.1 x2.2.2).bind fun r4 =>
    bif (!r4) then
     some (.inl (x2.1, x2.2.1, w64 (x2.2.2 + 1)))
    else
    (jP x2.1 x2.2.2).bind fun r5 =>
    (JG r5 x2.2.1).bind fun r6 =>
    bif (!r6) then
     some (.inl (x2.1, x2.2.1, w64 (x2.2.2 + 1)))
    else
     (
      bif (x2.2.2 == (x2.1.length : Int)) then
       some (.inr (x2.2.1))
      else
       (gd (x2.2.1.length + [x2.2.2].length)).bind fun _ =>
       some (.inl (x2.1, x2.2.1 ++ [x2.2.2]))
     ).bind fun r => some (.inr r)
   else
    (
     bif (x2.2.2 == (x2.1.length : Int)) then
      some (.inr (x2.2.1))
     else
      (gd (x2.2.1.length + [x2.2.2].length)).bind fun _ =>
      some ((.inl (x2.1, x2.2.1 ++ [x2.2.2])) : ((List aF) × (List Int)) ⊕ (List Int))
    ).bind fun r => some (.inr r)) (ps, out, 0) = some r /\ ((∃ j : Nat, jf (bJ ps) (bW ps) out ps.length = some j /\ r = .inl (ps, out ++ [(j : Int)])) \/ (jf (bJ ps) (bW ps) out ps.length = none /\ r = .inr out)) := by
  refine bH (fun (_ : Unit) (j : Nat) => ((ps, out, (j : Int)) : (List aF) × (List Int) × Int)) ps (fun j _ => ∀ k, k < j -> iY (bJ ps) (bW ps) out (k : Int) = false) (fun (r : ((List aF) × (List Int)) ⊕ (List Int)) => (∃ j : Nat, jf (bJ ps) (bW ps) out ps.length = some j /\ r = .inl (ps, out ++ [(j : Int)])) \/ (jf (bJ ps) (bW ps) out ps.length = none /\ r = .inr out)) (fun j p _ hx hJ => ?_) (fun _ hJ => ?_) () (fun k hk => by omega)
  ·have hj := (zC.1 hx).1
   have hfl := List.length_filter_le (bJ ps) (bW ps (j : Int))
   have hd := CB ps (j : Int)
   have hrd : iY (bJ ps) (bW ps) out (j : Int) = (bJ ps (j : Int) && !out.contains (j : Int) && ((bW ps (j : Int)).filter (bJ ps)).all fun x => out.contains x) := by
    rw [all_filter]; rfl
   have hne : ((j : Int) == (ps.length : Int)) = false := by simp; omega
   simp only [bK hx, cond_true, zA, F7 out (j : Int) (by omega), Wn h, RU h, X5 _ out (show ((bW ps (j : Int)).filter (bJ ps)).length <= 1000 by omega) (by omega), bI hx (by omega), hne, cond_false, gdp (show out.length + [(j : Int)].length <= 34359738368 by simp; omega)]
   cases h1 : out.contains (j : Int) with
   | true =>
    refine .inl ⟨(), rfl, rC hJ ?_⟩
    rw [hrd, h1]; simp
   | false =>
    cases h2 : bJ ps (j : Int) with
    | false =>
     refine .inl ⟨(), rfl, rC hJ ?_⟩
     rw [hrd, h2]; rfl
    | true =>
     cases h3 : ((bW ps (j : Int)).filter (bJ ps)).all fun x => out.contains x with
     | false =>
      refine .inl ⟨(), rfl, rC hJ ?_⟩
      rw [hrd, h3]; simp
     | true =>
      refine .inr ⟨_, rfl, .inl ⟨j, VZ hj hJ ?_, rfl⟩⟩
      rw [hrd, h1, h2, h3]; rfl
  ·refine ⟨.inr out, ?_, .inr ⟨VY hJ, rfl⟩⟩
   simp only [bC, cond_false, beq_self_eq_true, cond_true, zA]
 obtain ⟨r, e, hr⟩ := hin
 rcases hr with ⟨j, hn, rfl⟩ | ⟨hn, rfl⟩
 ·obtain ⟨m', rfl, hI'⟩ := hI.step hn
  exact .inl ⟨_, m', by omega, ⟨_, rfl, hI'⟩, e⟩
 ·exact .inr ⟨out, e, hI.stop hn⟩
theorem NW {ps : List aF} (h : Ps ps) : xR ps = some ((List.range ps.length).map fun j : Nat => bW ps (j : Int)) := by
 have hl := h.len
 unfold xR
 refine jH (bH (fun (s : List (List Int)) (j : Nat) => ((ps, s, (j : Int)) : (List aF) × (List (List Int)) × Int)) ps (fun j s => s = (List.range j).map fun k : Nat => bW ps (k : Int)) _ (fun j p s hx hI => .inl ?_) (fun s hI => ?_) [] rfl)
 ·have hj := (zC.1 hx).1
  have hsl : s.length = j := by rw [hI]; simp
  simp only [bK hx, cond_true, zA, Uw ps (by omega) h.ok, bI hx (by omega)]
  rw [gdp (show s.length + [bW ps (j : Int)].length <= 34359738368 by simp; omega), zA]
  exact ⟨_, rfl, by rw [hI, List.range_succ, List.map_append]; rfl⟩
 ·exact ⟨s, by simp only [bC, cond_false], hI⟩
theorem GN {α : Type} (f : Nat -> α) (z : α) (n j : Nat) (hj : j < n) : ((List.range j).map f ++ List.replicate (n - j) z).set j (f j) = (List.range (j + 1)).map f ++ List.replicate (n - (j + 1)) z := by
 have e : n - j = (n - (j + 1)) + 1 := by omega
 rw [e, List.replicate_succ, List.set_append_right _ _ (by simp), List.range_succ, List.map_append]
 simp
theorem JI {α : Type} (f : Nat -> α) (z : α) (n j : Nat) (hj : j < n) : ((List.range j).map f ++ List.replicate (n - j) z)[j]? = some z := by
 rw [List.getElem?_append_right (by simp), List.length_map, List.length_range, Nat.sub_self, List.getElem?_replicate, if_pos (by omega)]
theorem Qo {ps : List aF} {e : Int} (h : 0 <= e /\ e < (ps.length : Int)) : idx ((List.range ps.length).map fun j : Nat => bW ps (j : Int)) e = some (bW ps e) := by
 unfold idx
 have hk : e.toNat < ps.length := by omega
 rw [if_pos h.1, List.getElem?_map, List.getElem?_range hk]
 show some (bW ps ((e.toNat : Nat) : Int)) = _
 rw [show ((e.toNat : Nat) : Int) = e by omega]
theorem Ux {ps : List aF} (h : Ps ps) : tH ((List.range ps.length).map fun j : Nat => bW ps (j : Int)) = some ((List.range ps.length).map fun j : Nat => sO ps (j : Int)) := by
 have hl := h.len
 have hG := gok ps
 generalize hT : ((List.range ps.length).map fun j : Nat => bW ps (j : Int)) = T
 have hTl : T.length = ps.length := by rw [<- hT]; simp
 have hTa : ∀ e : Int, 0 <= e /\ e < (ps.length : Int) -> idx T e = some (bW ps e) := fun e he => by rw [<- hT]; exact Qo he
 unfold tH
 have hmk : mk (T.length : Int) = some ps.length := by
  unfold mk
  rw [if_pos ⟨by omega, by omega⟩, hTl]; simp
 rw [hmk, zA]
 refine jH (bH (fun (s : List Bool) (j : Nat) => ((T, s, (j : Int)) : (List (List Int)) × (List Bool) × Int)) T (fun j s => s = (List.range j).map (fun k : Nat => sO ps (k : Int)) ++ List.replicate (ps.length - j) false) _ (fun j row s hx hI => .inl ?_) (fun s hI => ?_) _ (by simp))
 ·have hj := (zC.1 hx).1
  rw [hTl] at hj
  have hrow : row = bW ps (j : Int) := by
   have := hTa (j : Int) ⟨by omega, by omega⟩
   rw [aB, hx] at this
   exact Option.some.inj this
  subst hrow
  have hdl := CB ps (j : Int)
  simp only [bK hx, cond_true, aB, hx, zA, gdp (show 0 + (bW ps (j : Int)).length <= 34359738368 by omega), List.nil_append]
  have hin : ∃ r, ah (fun (x4 : (List (List Int)) × (List Bool) × Int × (List Int) × Int) =>
    bif (decide (x4.2.2.2.2 < (x4.2.2.2.1.length : Int))) then
     (idx x4.2.2.2.1 x4.2.2.2.2).bind fun _ =>
     (x4.2.2.2.1[x4.2.2.2.2.toNat]?).bind fun e6 =>
     (idx x4.1 e6).bind fun e7 =>
     ah (fun (x8 : (List (List Int)) × (List Bool) × Int × (List Int) × Int × (List Int) × Int) =>
      bif (decide (x8.2.2.2.2.2.2 < (x8.2.2.2.2.2.1.length : Int))) then
       (idx x8.2.2.2.2.2.1 x8.2.2.2.2.2.2).bind fun e9 =>
       (dX x8.2.2.2.1 e9).bind fun r10 =>
       bif (!r10) then
        (idx x8.2.2.2.2.2.1 x8.2.2.2.2.2.2).bind fun e11 =>
        (gd (x8.2.2.2.1.length + [e11].length)).bind fun _ =>
        some (.inl (x8.1, x8.2.1, x8.2.2.1, x8.2.2.2.1 ++ [e11], x8.2.2.2.2.1, x8.2.2.2.2.2.1, w64 (x8.2.2.2.2.2.2 + 1)))
       else
        some (.inl (x8.1, x8.2.1, x8.2.2.1, x8.2.2.2.1, x8.2.2.2.2.1, x8.2.2.2.2.2.1, w64 (x8.2.2.2.2.2.2 + 1)))
      else
       some (.inr (.inl (x8.1, x8.2.1, x8.2.2.1, x8.2.2.2.1, w64 (x8.2.2.2.2.1 + 1))))
     ) (x4.1, x4.2.1, x4.2.2.1, x4.2.2.2.1, x4.2.2.2.2, e7, 0)
    else
     (
      (dX x4.2.2.2.1 x4.2.2.1).bind fun r12 =>
      (idx x4.2.1 x4.2.2.1).bind fun _ =>
      (x4.2.1[x4.2.2.1.toNat]?).bind fun e14 =>
      some ((.inl (x4.1, x4.2.1.set x4.2.2.1.toNat r12, w64 (x4.2.2.1 + 1))) : ((List (List Int)) × (List Bool) × Int) ⊕ (List Bool))
     ).bind fun r => some (.inr r)
   ) (T, s, (j : Int), bW ps (j : Int), 0) = some r /\ r = .inl (T, s.set j (sO ps (j : Int)), ((j + 1 : Nat) : Int)) := by
   refine I8 (fun m (x : (List (List Int)) × (List Bool) × Int × (List Int) × Int) => ∃ (q : Nat) (out : List Int), x = (T, s, (j : Int), out, (q : Int)) /\ m + q = ps.length /\ Em (bW ps) ps.length (j : Int) q out) (fun (r : ((List (List Int)) × (List Bool) × Int) ⊕ (List Bool)) => r = .inl (T, s.set j (sO ps (j : Int)), ((j + 1 : Nat) : Int))) (fun m x hI2 => ?_) ps.length (T, s, (j : Int), bW ps (j : Int), 0) ⟨0, _, rfl, rfl, Em.start hG _⟩
   obtain ⟨q, out, rfl, hm, hM⟩ := hI2
   have hol := hM.len hG
   by_cases hq : q < out.length
   ·have hxq := zF hq
    generalize out[q] = e at hxq
    have her := yc hG (hM.sub e (zG hxq))
    have hde := CB ps e
    simp only [bK hxq, cond_true, aB, hxq, Int.toNat_natCast, zA, hTa e her]
    left
    have htwo : ∃ r, ah (fun (x8 : (List (List Int)) × (List Bool) × Int × (List Int) × Int × (List Int) × Int) =>
      bif (decide (x8.2.2.2.2.2.2 < (x8.2.2.2.2.2.1.length : Int))) then
       (idx x8.2.2.2.2.2.1 x8.2.2.2.2.2.2).bind fun e9 =>
       (dX x8.2.2.2.1 e9).bind fun r10 =>
       bif (!r10) then
        (idx x8.2.2.2.2.2.1 x8.2.2.2.2.2.2).bind fun e11 =>
        (gd (x8.2.2.2.1.length + [e11].length)).bind fun _ =>
        some (.inl (x8.1, x8.2.1, x8.2.2.1, x8.2.2.2.1 ++ [e11], x8.2.2.2.2.1, x8.2.2.2.2.2.1, w64 (x8.2.2.2.2.2.2 + 1)))
       else
        some (.inl (x8.1, x8.2.1, x8.2.2.1, x8.2.2.2.1, x8.2.2.2.2.1, x8.2.2.2.2.2.1, w64 (x8.2.2.2.2.2.2 + 1)))
      else
       some (.inr ((.inl (x8.1, x8.2.1, x8.2.2.1, x8.2.2.2.1, w64 (x8.2.2.2.2.1 + 1))) : ((List (List Int)) × (List Bool) × Int × (List Int) × Int) ⊕ (((List (List Int)) × (List Bool) × Int) ⊕ (List Bool))))
     ) (T, s, (j : Int), out, (q : Int), bW ps e, 0) = some r /\ ∃ out', r = .inl (T, s, (j : Int), out', ((q + 1 : Nat) : Int)) /\ Em (bW ps) ps.length (j : Int) (q + 1) out' := by
     refine bH (fun (z : List Int) (k : Nat) => ((T, s, (j : Int), z, (q : Int), bW ps e, (k : Int)) : (List (List Int)) × (List Bool) × Int × (List Int) × Int × (List Int) × Int)) (bW ps e) (fun k z => Qd (bW ps) ps.length (j : Int) q e k out z) (fun (r : ((List (List Int)) × (List Bool) × Int × (List Int) × Int) ⊕ (((List (List Int)) × (List Bool) × Int) ⊕ (List Bool))) => ∃ out', r = .inl (T, s, (j : Int), out', ((q + 1 : Nat) : Int)) /\ Em (bW ps) ps.length (j : Int) (q + 1) out') (fun k y z hy hJ => .inl ?_) (fun z hJ => ?_) out ⟨hM, ⟨[], by simp⟩, hxq, fun x hx => by simp at hx⟩
     ·have hzl := hJ.base.len hG
      simp only [bK hy, cond_true, aB, hy, zA, Bh z y (by omega), gdp (show z.length + [y].length <= 34359738368 by simp; omega), bI hy (by omega)]
      cases hc : z.contains y with
      | true => exact ⟨z, rfl, hJ.pass hy hc⟩
      | false => exact ⟨z ++ [y], rfl, hJ.put hy hc⟩
     ·simp only [bC, cond_false]
      exact ⟨_, rfl, z, by rw [bI hxq (by omega)], hJ.done⟩
    obtain ⟨r, e1, out', rfl, hM'⟩ := htwo
    exact ⟨_, m - 1, by omega, ⟨q + 1, out', rfl, by omega, hM'⟩, e1⟩
   ·have hle : out.length <= q := by omega
    have hd : decide ((q : Int) < (out.length : Int)) = false := by simpa using hle
    have hM2 : Em (bW ps) ps.length (j : Int) out.length out := ⟨hM.nd, hM.sub, hM.one, fun k hk => hM.more k (by rw [List.take_of_length_le hle]; rw [List.take_length] at hk; exact hk)⟩
    have hgp := JI (fun k : Nat => sO ps (k : Int)) false ps.length j hj
    rw [<- hI] at hgp
    simp only [hd, cond_false, Bh out (j : Int) (by omega), Ws hM2.end_, aB, hgp, Int.toNat_natCast, zA, bI hx (by omega)]
    exact .inr ⟨_, rfl, rfl⟩
  obtain ⟨r, e1, rfl⟩ := hin
  refine ⟨_, e1, ?_⟩
  rw [hI, GN (fun k : Nat => sO ps (k : Int)) false ps.length j hj]
 ·rw [hTl] at hI
  refine ⟨s, by simp only [bC, cond_false], ?_⟩
  rw [hI]; simp
theorem Xb {ps : List aF} (out xs : List Int) (hx : xs.length <= 1000) (ho : out.length <= 1000) (hr : ∀ x, x ∈ xs -> 0 <= x /\ x < (ps.length : Int)) :
  oG out xs ((List.range ps.length).map fun j : Nat => bJ ps (j : Int)) = some (xs.all fun u => !bJ ps u || out.contains u) := by
 generalize hR : ((List.range ps.length).map fun j : Nat => bJ ps (j : Int)) = R
 have hRa : ∀ e : Int, 0 <= e /\ e < (ps.length : Int) -> idx R e = some (bJ ps e) := fun e he => by
  rw [<- hR]
  unfold idx
  have hk : e.toNat < ps.length := by omega
  rw [if_pos he.1, List.getElem?_map, List.getElem?_range hk]
  show some (bJ ps ((e.toNat : Nat) : Int)) = _
  rw [show ((e.toNat : Nat) : Int) = e by omega]
 unfold oG
 refine jH (bH (fun (_ : Unit) (j : Nat) => ((out, xs, R, (j : Int)) : (List Int) × (List Int) × (List Bool) × Int)) xs (fun j _ => (xs.take j).all (fun u => !bJ ps u || out.contains u) = true) _ (fun j x _ hx2 hI => ?_) (fun _ hI => ?_) () rfl)
 ·have hxr := hr x (zG hx2)
  have hall : ∀ b, (!bJ ps x || out.contains x) = b -> (b = true -> (xs.take (j + 1)).all (fun u => !bJ ps u || out.contains u) = true) /\ (b = false -> (xs.all fun u => !bJ ps u || out.contains u) = false) := fun b hb => by
   refine ⟨fun h => ?_, fun h => ?_⟩
   ·rw [List.take_add_one, hx2, List.all_append, hI]
    simp only [Option.toList_some, List.all_cons, List.all_nil, Bool.and_true, Bool.true_and]
    rw [hb]; exact h
   ·rw [List.all_eq_false]
    exact ⟨x, zG hx2, by rw [hb, h]; simp⟩
  simp only [bK hx2, cond_true, aB, hx2, zA, hRa x hxr, Bh out x (by omega), bI hx2 (by omega)]
  cases h1 : bJ ps x with
  | false => exact .inl ⟨(), rfl, (hall true (by rw [h1]; rfl)).1 rfl⟩
  | true =>
   cases h2 : out.contains x with
   | true => exact .inl ⟨(), rfl, (hall true (by rw [h1, h2]; rfl)).1 rfl⟩
   | false => exact .inr ⟨false, rfl, ((hall false (by rw [h1, h2]; rfl)).2 rfl).symm⟩
 ·rw [List.take_length] at hI
  exact ⟨true, by simp only [bC, cond_false], hI.symm⟩
theorem Xr (R : Int -> Bool) (j : Nat) : fV R (j + 1) = if R (j : Int) = true then fV R j + 1 else fV R j := by
 unfold fV
 rw [List.range_succ, List.filter_append]
 cases h : R (j : Int) with
 | true => simp [h]
 | false => simp [h]
theorem adG {α : Type} (f : Nat -> α) (z : α) (n j : Nat) (hj : j < n) (v : α) : (((List.range j).map f ++ List.replicate (n - j) z).set j v)[j]? = some v := by
 rw [List.getElem?_set_self (by simp; omega)]
theorem aa4 {ps : List aF} {e : Int} (h : 0 <= e /\ e < (ps.length : Int)) : idx ((List.range ps.length).map fun j : Nat => bJ ps (j : Int)) e = some (bJ ps e) := by
 unfold idx
 have hk : e.toNat < ps.length := by omega
 rw [if_pos h.1, List.getElem?_map, List.getElem?_range hk]
 show some (bJ ps ((e.toNat : Nat) : Int)) = _
 rw [show ((e.toNat : Nat) : Int) = e by omega]
theorem abS {ps : List aF} {e : Int} (h : 0 <= e /\ e < (ps.length : Int)) : idx ((List.range ps.length).map fun j : Nat => sO ps (j : Int)) e = some (sO ps e) := by
 unfold idx
 have hk : e.toNat < ps.length := by omega
 rw [if_pos h.1, List.getElem?_map, List.getElem?_range hk]
 show some (sO ps ((e.toNat : Nat) : Int)) = _
 rw [show ((e.toNat : Nat) : Int) = e by omega]
theorem aaX {ps : List aF} (h : Ps ps) :
  ah (fun (x23 : (List aF) × (List (List Int)) × (List Bool) × Int × (List Int)) =>
   bif (decide ((x23.2.2.2.2.length : Int) < x23.2.2.2.1)) then
    ah (fun (x24 : (List aF) × (List (List Int)) × (List Bool) × Int × (List Int) × Int) =>
     bif (decide (x24.2.2.2.2.2 < (x24.1.length : Int))) then
      (idx x24.2.2.1 x24.2.2.2.2.2).bind fun _ =>
      (x24.2.2.1[x24.2.2.2.2.2.toNat]?).bind fun e26 =>
      bif e26 then
       (dX x24.2.2.2.2.1 x24.2.2.2.2.2).bind fun r27 =>
       bif (!r27) then
        (idx x24.2.1 x24.2.2.2.2.2).bind fun e28 =>
        (oG x24.2.2.2.2.1 e28 x24.2.2.1).bind fun r29 =>
        bif r29 then
         (gd (x24.2.2.2.2.1.length + [x24.2.2.2.2.2].length)).bind fun _ =>
         some (.inr (.inl (x24.1, x24.2.1, x24.2.2.1, x24.2.2.2.1, x24.2.2.2.2.1 ++ [x24.2.2.2.2.2])))
        else
         some (.inl (x24.1, x24.2.1, x24.2.2.1, x24.2.2.2.1, x24.2.2.2.2.1, w64 (x24.2.2.2.2.2 + 1)))
       else
        some (.inl (x24.1, x24.2.1, x24.2.2.1, x24.2.2.2.1, x24.2.2.2.2.1, w64 (x24.2.2.2.2.2 + 1)))
      else
       some (.inl (x24.1, x24.2.1, x24.2.2.1, x24.2.2.2.1, x24.2.2.2.2.1, w64 (x24.2.2.2.2.2 + 1)))
     else
      some (.inr (.inl (x24.1, x24.2.1, x24.2.2.1, x24.2.2.2.1, x24.2.2.2.2.1)))
    ) (x23.1, x23.2.1, x23.2.2.1, x23.2.2.2.1, x23.2.2.2.2, 0)
   else
    some (.inr (x23.2.2.2.2))) (ps, ((List.range ps.length).map fun j : Nat => bW ps (j : Int)), ((List.range ps.length).map fun j : Nat => bJ ps (j : Int)), (fV (bJ ps) ps.length : Int), []) = some (IA ps) := by
 have hl := h.len
 have hG := gok ps
 have hrn := rq (bJ ps) ps.length
 have hrd := fun (out : List Int) (j : Int) (h1 : out.length <= 1000) => Xb (ps := ps) out (bW ps j) (by have := CB ps j; omega) h1 (fun x hx => hG.rng j x hx)
 generalize hT : ((List.range ps.length).map fun j : Nat => bW ps (j : Int)) = T
 have hTa : ∀ e : Int, 0 <= e /\ e < (ps.length : Int) -> idx T e = some (bW ps e) := fun e he => by rw [<- hT]; exact Qo he
 generalize hR : ((List.range ps.length).map fun j : Nat => bJ ps (j : Int)) = R at hrd ⊢
 have hRa : ∀ e : Int, 0 <= e /\ e < (ps.length : Int) -> idx R e = some (bJ ps e) := fun e he => by rw [<- hR]; exact aa4 he
 refine jH (I8 (fun m (x : (List aF) × (List (List Int)) × (List Bool) × Int × (List Int)) => ∃ out, x = (ps, T, R, (fV (bJ ps) ps.length : Int), out) /\ Ej ps m out) (fun l => l = IA ps) (fun m x hI => ?_) ps.length _ ⟨[], rfl, Ej.start ps⟩)
 obtain ⟨out, rfl, hI⟩ := hI
 have hol := hI.len
 by_cases hlt : out.length < fV (bJ ps) ps.length
 ·obtain ⟨j0, hn⟩ := XH hG (fun k hk => o8 hk) (fun k hk => Y1 hk) hI.ok hlt
  have hd : decide ((out.length : Int) < (fV (bJ ps) ps.length : Int)) = true := by simp; omega
  simp only [hd, cond_true]
  left
  suffices hs : ∃ r, ah (fun (x24 : (List aF) × (List (List Int)) × (List Bool) × Int × (List Int) × Int) =>
    bif (decide (x24.2.2.2.2.2 < (x24.1.length : Int))) then
     (idx x24.2.2.1 x24.2.2.2.2.2).bind fun _ =>
     (x24.2.2.1[x24.2.2.2.2.2.toNat]?).bind fun e26 =>
     bif e26 then
      (dX x24.2.2.2.2.1 x24.2.2.2.2.2).bind fun r27 =>
      bif (!r27) then
       (idx x24.2.1 x24.2.2.2.2.2).bind fun e28 =>
       (oG x24.2.2.2.2.1 e28 x24.2.2.1).bind fun r29 =>
       bif r29 then
        (gd (x24.2.2.2.2.1.length + [x24.2.2.2.2.2].length)).bind fun _ =>
        some (.inr ((.inl (x24.1, x24.2.1, x24.2.2.1, x24.2.2.2.1, x24.2.2.2.2.1 ++ [x24.2.2.2.2.2])) : ((List aF) × (List (List Int)) × (List Bool) × Int × (List Int)) ⊕ (List Int)))
       else
        some (.inl (x24.1, x24.2.1, x24.2.2.1, x24.2.2.2.1, x24.2.2.2.2.1, w64 (x24.2.2.2.2.2 + 1)))
      else
       some (.inl (x24.1, x24.2.1, x24.2.2.1, x24.2.2.2.1, x24.2.2.2.2.1, w64 (x24.2.2.2.2.2 + 1)))
     else
      some (.inl (x24.1, x24.2.1, x24.2.2.1, x24.2.2.2.1, x24.2.2.2.2.1, w64 (x24.2.2.2.2.2 + 1)))
    else
     some (.inr (.inl (x24.1, x24.2.1, x24.2.2.1, x24.2.2.2.1, x24.2.2.2.2.1)))
   ) (ps, T, R, (fV (bJ ps) ps.length : Int), out, 0) = some r /\ ∃ j : Nat, jf (bJ ps) (bW ps) out ps.length = some j /\ r = .inl (ps, T, R, (fV (bJ ps) ps.length : Int), out ++ [(j : Int)]) by
   obtain ⟨r, e, j, hn', rfl⟩ := hs
   obtain ⟨m', rfl, hI'⟩ := hI.step hn'
   exact ⟨_, m', by omega, ⟨_, rfl, hI'⟩, e⟩
  refine bH (fun (_ : Unit) (j : Nat) => ((ps, T, R, (fV (bJ ps) ps.length : Int), out, (j : Int)) : (List aF) × (List (List Int)) × (List Bool) × Int × (List Int) × Int)) ps (fun j _ => ∀ k, k < j -> iY (bJ ps) (bW ps) out (k : Int) = false) (fun (r : ((List aF) × (List (List Int)) × (List Bool) × Int × (List Int)) ⊕ (List Int)) => ∃ j : Nat, jf (bJ ps) (bW ps) out ps.length = some j /\ r = .inl (ps, T, R, (fV (bJ ps) ps.length : Int), out ++ [(j : Int)])) (fun j p _ hx hJ => ?_) (fun _ hJ => ?_) () (fun k hk => by omega)
  ·have hj := (zC.1 hx).1
   have hrj := hRa (j : Int) ⟨by omega, by omega⟩
   have hrj2 := hrj
   rw [aB] at hrj2
   have hready : iY (bJ ps) (bW ps) out (j : Int) = (bJ ps (j : Int) && !out.contains (j : Int) && (bW ps (j : Int)).all fun u => !bJ ps u || out.contains u) := rfl
   simp only [bK hx, cond_true, zA, hrj, hrj2, Int.toNat_natCast, Bh out (j : Int) (by omega), hTa (j : Int) ⟨by omega, by omega⟩, hrd out (j : Int) (by omega), bI hx (by omega), gdp (show out.length + [(j : Int)].length <= 34359738368 by simp; omega)]
   cases h2 : bJ ps (j : Int) with
   | false =>
    refine .inl ⟨(), rfl, rC hJ ?_⟩
    rw [hready, h2]; rfl
   | true =>
    cases h1 : out.contains (j : Int) with
    | true =>
     refine .inl ⟨(), rfl, rC hJ ?_⟩
     rw [hready, h1]; simp
    | false =>
     cases h3 : (bW ps (j : Int)).all fun u => !bJ ps u || out.contains u with
     | false =>
      refine .inl ⟨(), rfl, rC hJ ?_⟩
      rw [hready, h3]; simp
     | true =>
      refine .inr ⟨_, rfl, j, VZ hj hJ ?_, rfl⟩
      rw [hready, h1, h2, h3]; rfl
  ·rw [VY hJ] at hn
   cases hn
 ·have hd : decide ((out.length : Int) < (fV (bJ ps) ps.length : Int)) = false := by simp; omega
  simp only [hd, cond_false]
  exact .inr ⟨out, rfl, hI.stop (Zt (fun k hk => o8 hk) hI.ok (by omega))⟩
theorem Xd {ps : List aF} (h : Ps ps) : xP ps = some (IA ps) := by
 have hl := h.len
 unfold xP
 rw [NW h, zA, Ux h, zA]
 suffices hs : xQ ps ((List.range ps.length).map fun j : Nat => bW ps (j : Int)) ((List.range ps.length).map fun j : Nat => sO ps (j : Int)) = some (IA ps) by rw [hs]; rfl
 have hout := aaX h
 generalize ((List.range ps.length).map fun j : Nat => bW ps (j : Int)) = T at hout ⊢
 generalize hC : ((List.range ps.length).map fun j : Nat => sO ps (j : Int)) = C
 have hCa : ∀ e : Int, 0 <= e /\ e < (ps.length : Int) -> idx C e = some (sO ps e) := fun e he => by rw [<- hC]; exact abS he
 unfold xQ
 have hmk : mk (ps.length : Int) = some ps.length := by
  unfold mk
  rw [if_pos ⟨by omega, by omega⟩]; simp
 rw [hmk, zA]
 refine jH (bH (fun (s : List Bool × Nat) (j : Nat) => ((ps, T, C, s.1, (s.2 : Int), (j : Int)) : (List aF) × (List (List Int)) × (List Bool) × (List Bool) × Int × Int)) ps (fun j s => s.1 = (List.range j).map (fun k : Nat => bJ ps (k : Int)) ++ List.replicate (ps.length - j) false /\ s.2 = fV (bJ ps) j) _ (fun j p s hx hI => .inl ?_) (fun s hI => ?_) (List.replicate ps.length false, 0) ⟨by simp, rfl⟩)
 ·obtain ⟨rs, q⟩ := s
  have hj := (zC.1 hx).1
  have hq : q <= 8 := by
   have := rq (bJ ps) j
   have := hI.2
   simp only at this
   omega
  have hgp := JI (fun k : Nat => bJ ps (k : Int)) false ps.length j hj
  have hsp := GN (fun k : Nat => bJ ps (k : Int)) false ps.length j hj
  have hsa := adG (fun k : Nat => bJ ps (k : Int)) false ps.length j hj
  rw [<- hI.1] at hgp hsp hsa
  have hup := Xr (bJ ps) j
  rw [<- hI.2] at hup
  simp only at hgp hsp hsa hup
  have hw : w64 ((q : Int) + 1) = ((q + 1 : Nat) : Int) := by rw [bG (by omega) (by omega)]; omega
  have hrb := FY hx
  -- what is set, what is counted
  have fin : ∀ b : Bool, bJ ps (j : Int) = b -> (b = true -> ((rs.set j true), q + 1).1 = (List.range (j + 1)).map (fun k : Nat => bJ ps (k : Int)) ++ List.replicate (ps.length - (j + 1)) false /\ ((rs.set j true), q + 1).2 = fV (bJ ps) (j + 1)) /\
    (b = false -> ((rs.set j false), q).1 = (List.range (j + 1)).map (fun k : Nat => bJ ps (k : Int)) ++ List.replicate (ps.length - (j + 1)) false /\ ((rs.set j false), q).2 = fV (bJ ps) (j + 1)) := fun b hb => by
   refine ⟨fun h => ?_, fun h => ?_⟩
   ·rw [h] at hb
    rw [hb] at hsp hup
    exact ⟨hsp, by rw [hup]; rfl⟩
   ·rw [h] at hb
    rw [hb] at hsp hup
    exact ⟨hsp, by rw [hup]; rfl⟩
  simp only [bK hx, cond_true, hCa (j : Int) ⟨by omega, by omega⟩, YU h hx, aB, hx, hgp, hsa, zA, Int.toNat_natCast, bI hx (by omega), hw]
  cases hc : sO ps (j : Int) with
  | true => exact ⟨((rs.set j false), q), rfl, (fin false (by rw [hrb, hc]; simp)).2 rfl⟩
  | false =>
   cases hd : SY ps p with
   | true => exact ⟨((rs.set j false), q), rfl, (fin false (by rw [hrb, hd]; simp)).2 rfl⟩
   | false =>
    cases h2 : (p.kind == 2) with
    | true => exact ⟨((rs.set j true), q + 1), rfl, (fin true (by rw [hrb, hd, hc, h2]; rfl)).1 rfl⟩
    | false =>
     cases h3 : (p.kind == 3) with
     | true => exact ⟨((rs.set j true), q + 1), rfl, (fin true (by rw [hrb, hd, hc, h2, h3]; rfl)).1 rfl⟩
     | false => exact ⟨((rs.set j false), q), rfl, (fin false (by rw [hrb, h2, h3]; rfl)).2 rfl⟩
 ·obtain ⟨rs, q⟩ := s
  obtain ⟨h1, h2⟩ := hI
  simp only at h1 h2
  rw [Nat.sub_self, List.replicate_zero, List.append_nil] at h1
  subst h1 h2
  refine ⟨_, ?_, rfl⟩
  simp only [bC, cond_false]
  rw [hout]; rfl
theorem P5 {cs : List aV} {ps : List aF} (hl : cs.length <= 1048576) (h : ∀ c, c ∈ cs -> xH c) (hv : zf cs = true) (e : fP ⟨cs⟩ = some ps) : ∀ (j : Nat) (c : aV) (p : aF), cs[j]? = some c -> ps[j]? = some p -> c.kind = 1 -> p.kind = 1 := by
 obtain ⟨h8, hcv⟩ := Am h hv
 have key : ∃ r, fP ⟨cs⟩ = some r /\ ∀ (j : Nat) (c : aV) (p : aF), cs[j]? = some c -> r[j]? = some p -> c.kind = 1 -> p.kind = 1 := by
  unfold fP
  simp only [Cb cs hl h, hv, zA, Bool.not_true, cond_false]
  refine bH (fun (out : List aF) (i : Nat) => ((out, cs, (cs.length : Int), (i : Int)) : (List aF) × (List aV) × Int × Int)) cs (fun i out => out.length = i /\ ∀ (j : Nat) (c : aV) (p : aF), cs[j]? = some c -> out[j]? = some p -> c.kind = 1 -> p.kind = 1) _ (fun i c out hx hI => .inl ?_) (fun out hI => ⟨out, by simp only [bC, cond_false], hI.2⟩) [] ⟨rfl, fun j c p _ hp => by simp at hp⟩
  obtain ⟨q1, q2⟩ := hcv c (zG hx)
  have v1 : dV c = some true := by rw [Gg c (h c (zG hx)), q1]
  obtain ⟨p, c1, _, _⟩ := CJ c v1 (by rw [P7 c (h c (zG hx)), q1]) q2
  have hk : c.kind = 1 -> p.kind = 1 := fun hk => by
   unfold ja at c1
   simp only [v1, zA, Bool.not_true, cond_false, hk, beq_self_eq_true, cond_true] at c1
   rw [<- Option.some.inj c1]
  have hi := (zC.1 hx).1
  refine ⟨out ++ [p], ?_, by simp [hI.1], fun j c' p' hc' hp' => ?_⟩
  ·simp only [bK hx, cond_true, aB, hx, zA, c1, rD, gdp (show out.length + [p].length <= 34359738368 by simp; omega), bI hx (by omega)]
  ·by_cases hj : j < out.length
   ·rw [List.getElem?_append_left hj] at hp'
    exact hI.2 j c' p' hc' hp'
   ·have hj2 := (zC.1 hp').1
    simp at hj2
    have : j = i := by omega
    subst this
    rw [hx] at hc'
    rw [List.getElem?_append_right (by omega), hI.1, Nat.sub_self] at hp'
    cases hc'
    have : p = p' := Option.some.inj hp'
    subst this
    exact hk
 obtain ⟨r, e2, hr⟩ := key
 rw [e] at e2
 cases e2
 exact hr
theorem Zq (c : aV) (hL : xH c) (h : dV c = some true) (hk : c.kind = 3) : 0 <= c.n /\ c.n <= 100 := by
 obtain ⟨v, p1, _⟩ := Bz c.code hL.code
 obtain ⟨u, q1⟩ := sW c.name (by have := hL.name; omega)
 unfold dV at h
 simp only [pF, p1, q1, zA, hk, Jr] at h
 revert h
 cases (decide (1 <= c.id) && decide (c.id <= 999)) with
 | false => intro h; cases h
 | true =>
  cases (decide (1 <= c.version) && decide (c.version <= 999)) with
  | false => intro h; cases h
  | true =>
   cases v with
   | false => intro h; cases h
   | true =>
    cases u with
    | false => intro h; cases h
    | true =>
     cases (c.code == []) with
     | false => intro h; cases h
     | true => intro h; have := Option.some.inj h; simpa using this
theorem abe (ps : List aF) : vH (bJ ps) ps.length (IA ps) := by
 have key : ∀ (m : Nat) (out : List Int), vH (bJ ps) ps.length out -> vH (bJ ps) ps.length (zT (bJ ps) (bW ps) ps.length m out) := by
  intro m
  induction m with
  | zero => exact fun out h => h
  | succ m ih =>
   intro out h
   show vH _ _ (match jf (bJ ps) (bW ps) out ps.length with
    | none => out
    | some k => zT (bJ ps) (bW ps) ps.length m (out ++ [(k : Int)]))
   cases hn : jf (bJ ps) (bW ps) out ps.length with
   | none => exact h
   | some k => exact ih _ (h.snoc (IU hn).2.1)
 exact key _ _ ⟨.nil, fun k hk => by cases hk⟩
theorem Om (cs : List aV) (hl : cs.length <= 1048576) (h : ∀ c, c ∈ cs -> xH c) : ∃ l, jR ⟨cs⟩ = some l /\ lU ⟨cs⟩ = some l /\ l.length <= 8 /\ ∀ x, x ∈ l -> x.length <= 1000 := by
 obtain ⟨ps, c1, c2, c3, c4, c5⟩ := LY cs hl h
 have hP : Ps ps := ⟨c5, c3⟩
 have hO := abe ps
 have hOl := hO.len fun k hk => o8 hk
 have hrn := rq (bJ ps) ps.length
 unfold jR lU
 simp only [Cb cs hl h, c1, c2, XZ hP, Xd hP, zA]
 cases hv : zf cs with
 | false =>
  have hps : ps = [] := by
   unfold fP at c1
   simp only [Cb cs hl h, hv, zA, Bool.not_false, cond_true] at c1
   exact (Option.some.inj c1).symm
  subst hps
  have h0 : IA [] = [] := List.length_eq_zero_iff.1 (Nat.le_zero.1 (Nat.le_trans hOl hrn))
  rw [h0]
  refine ⟨[], rfl, ?_, by simp, fun x hx => by cases hx⟩
  rw [aH]
  rfl
 | true =>
  obtain ⟨h8, hcv⟩ := Am h hv
  have hpl := c4 hv
  have hck := P5 hl h hv c1
  simp only [Bool.not_true, cond_false]
  generalize IA ps = xs at hO hOl ⊢
  have key := VA (ρ := List Str) (f := fun (x4 : (List aV) × (List Str) × (List Int) × Int × Int) => bif (decide (x4.2.2.2.2< x4.2.2.2.1)) then
       (idx x4.2.2.1 x4.2.2.2.2).bind fun _ =>
       (x4.2.2.1[x4.2.2.2.2.toNat]?).bind fun e6 =>
       (idx x4.1 e6).bind fun e7 =>
       (iZ e7.id).bind fun r8 =>
       (gd (r8.length + [32].length)).bind fun _ =>
       (iZ e7.version).bind fun r9 =>
       (gd ((r8 ++ [32]).length + r9.length)).bind fun _ =>
       (gd (((r8 ++ [32]) ++ r9).length + [32].length)).bind fun _ =>
       (gd ((((r8 ++ [32]) ++ r9) ++ [32]).length + e7.name.length)).bind fun _ =>
       bif (e7.kind == 2) then
        (gd (((((r8 ++ [32]) ++ r9) ++ [32]) ++ e7.name).length + [32, 61, 32].length)).bind fun _ =>
        (gd ((((((r8 ++ [32]) ++ r9) ++ [32]) ++ e7.name) ++ [32, 61, 32]).length + e7.code.length)).bind fun _ =>
        (gd (x4.2.1.length + ([(((((r8 ++ [32]) ++ r9) ++ [32]) ++ e7.name) ++ [32, 61, 32]) ++ e7.code] : List Str).length)).bind fun _ =>
        some (.inl (x4.1, x4.2.1 ++ ([(((((r8 ++ [32]) ++ r9) ++ [32]) ++ e7.name) ++ [32, 61, 32]) ++ e7.code] : List Str), x4.2.2.1, x4.2.2.2.1, w64 (x4.2.2.2.2 + 1)))
       else
       bif (e7.kind == 3) then
        (gd (((((r8 ++ [32]) ++ r9) ++ [32]) ++ e7.name).length + [32, 61, 32].length)).bind fun _ =>
        (iZ e7.n).bind fun r10 =>
        (gd ((((((r8 ++ [32]) ++ r9) ++ [32]) ++ e7.name) ++ [32, 61, 32]).length + r10.length)).bind fun _ =>
        (gd (x4.2.1.length + ([(((((r8 ++ [32]) ++ r9) ++ [32]) ++ e7.name) ++ [32, 61, 32]) ++ r10] : List Str).length)).bind fun _ =>
        some (.inl (x4.1, x4.2.1 ++ ([(((((r8 ++ [32]) ++ r9) ++ [32]) ++ e7.name) ++ [32, 61, 32]) ++ r10] : List Str), x4.2.2.1, x4.2.2.2.1, w64 (x4.2.2.2.2 + 1)))
       else
        bif (e7.kind == 4) then
         (gd (((((r8 ++ [32]) ++ r9) ++ [32]) ++ e7.name).length + [32, 58, 32].length)).bind fun _ =>
         (gd ((((((r8 ++ [32]) ++ r9) ++ [32]) ++ e7.name) ++ [32, 58, 32]).length + e7.code.length)).bind fun _ =>
         (gd (x4.2.1.length + ([(((((r8 ++ [32]) ++ r9) ++ [32]) ++ e7.name) ++ [32, 58, 32]) ++ e7.code] : List Str).length)).bind fun _ =>
         some (.inl (x4.1, x4.2.1 ++ ([(((((r8 ++ [32]) ++ r9) ++ [32]) ++ e7.name) ++ [32, 58, 32]) ++ e7.code] : List Str), x4.2.2.1, x4.2.2.2.1, w64 (x4.2.2.2.2 + 1)))
        else
         (gd (x4.2.1.length + ([(((r8 ++ [32]) ++ r9) ++ [32]) ++ e7.name] : List Str).length)).bind fun _ =>
         some (.inl (x4.1, x4.2.1 ++ ([(((r8 ++ [32]) ++ r9) ++ [32]) ++ e7.name] : List Str), x4.2.2.1, x4.2.2.2.1, w64 (x4.2.2.2.2 + 1)))
    else
     some (.inr (x4.2.1))) (g := fun (x3 : (List aV) × (List Str) × (List Int) × Int) => bif (decide (x3.2.2.2< (x3.2.2.1.length : Int))) then
     (idx x3.2.2.1 x3.2.2.2).bind fun _ =>
     (x3.2.2.1[x3.2.2.2.toNat]?).bind fun e5 =>
     (idx x3.1 e5).bind fun e6 =>
     (di e6.id).bind fun r7 =>
     (gd (r7.length + [32].length)).bind fun _ =>
     (di e6.version).bind fun r8 =>
     (gd ((r7 ++ [32]).length + r8.length)).bind fun _ =>
     (gd (((r7 ++ [32]) ++ r8).length + [32].length)).bind fun _ =>
     (gd ((((r7 ++ [32]) ++ r8) ++ [32]).length + e6.name.length)).bind fun _ =>
     bif (e6.kind == 2) then
      (gd (((((r7 ++ [32]) ++ r8) ++ [32]) ++ e6.name).length + [32, 61, 32].length)).bind fun _ =>
      (gd ((((((r7 ++ [32]) ++ r8) ++ [32]) ++ e6.name) ++ [32, 61, 32]).length + e6.code.length)).bind fun _ =>
      (gd (x3.2.1.length + ([(((((r7 ++ [32]) ++ r8) ++ [32]) ++ e6.name) ++ [32, 61, 32]) ++ e6.code] : List Str).length)).bind fun _ =>
      some (.inl (x3.1, x3.2.1 ++ ([(((((r7 ++ [32]) ++ r8) ++ [32]) ++ e6.name) ++ [32, 61, 32]) ++ e6.code] : List Str), x3.2.2.1, w64 (x3.2.2.2 + 1)))
     else
     bif (e6.kind == 3) then
      (gd (((((r7 ++ [32]) ++ r8) ++ [32]) ++ e6.name).length + [32, 61, 32].length)).bind fun _ =>
      (di e6.n).bind fun r9 =>
      (gd ((((((r7 ++ [32]) ++ r8) ++ [32]) ++ e6.name) ++ [32, 61, 32]).length + r9.length)).bind fun _ =>
      (gd (x3.2.1.length + ([(((((r7 ++ [32]) ++ r8) ++ [32]) ++ e6.name) ++ [32, 61, 32]) ++ r9] : List Str).length)).bind fun _ =>
      some (.inl (x3.1, x3.2.1 ++ ([(((((r7 ++ [32]) ++ r8) ++ [32]) ++ e6.name) ++ [32, 61, 32]) ++ r9] : List Str), x3.2.2.1, w64 (x3.2.2.2 + 1)))
     else
      (gd (((((r7 ++ [32]) ++ r8) ++ [32]) ++ e6.name).length + [32, 58, 32].length)).bind fun _ =>
      (gd ((((((r7 ++ [32]) ++ r8) ++ [32]) ++ e6.name) ++ [32, 58, 32]).length + e6.code.length)).bind fun _ =>
      (gd (x3.2.1.length + ([(((((r7 ++ [32]) ++ r8) ++ [32]) ++ e6.name) ++ [32, 58, 32]) ++ e6.code] : List Str).length)).bind fun _ =>
      some (.inl (x3.1, x3.2.1 ++ ([(((((r7 ++ [32]) ++ r8) ++ [32]) ++ e6.name) ++ [32, 58, 32]) ++ e6.code] : List Str), x3.2.2.1, w64 (x3.2.2.2 + 1)))
    else
     some (.inr (x3.2.1)))
   (fun (out : List Str) (i : Nat) => ((cs, out, xs, (xs.length : Int), (i : Int)) : (List aV) × (List Str) × (List Int) × Int × Int)) (fun (out : List Str) (i : Nat) => ((cs, out, xs, (i : Int)) : (List aV) × (List Str) × (List Int) × Int)) xs (fun i out => out.length = i /\ ∀ x, x ∈ out -> x.length <= 1000) (fun l => l.length <= 8 /\ ∀ x, x ∈ l -> x.length <= 1000) (fun i e out hx hI => .inl ?_) (fun out hI => ⟨out, by simp only [bC, cond_false], by simp only [bC, cond_false], by omega, hI.2⟩) [] ⟨rfl, fun x hx => by cases hx⟩
  ·obtain ⟨l, e1, e2, r1, r2⟩ := key
   exact ⟨l, e1, e2, r1, r2⟩
  have hi := (zC.1 hx).1
  have hrun := hO.run e (zG hx)
  have hr := o8 hrun
  obtain ⟨k, rfl⟩ : ∃ k : Nat, e = (k : Int) := ⟨e.toNat, by omega⟩
  obtain ⟨p, hp⟩ : ∃ p, ps[k]? = some p := ⟨_, zF (by omega)⟩
  obtain ⟨c, hc⟩ : ∃ c, cs[k]? = some c := ⟨_, zF (by omega)⟩
  obtain ⟨q1, q2⟩ := hcv c (zG hc)
  have hL := h c (zG hc)
  have hnk : ¬ c.kind = 1 := fun hk => by
   have := hck k c p hc hp hk
   rw [FY hp, this] at hrun
   cases hrun
  have i1 := q2.id0
  have i2 := q2.id9
  have v1 := q2.v0
  have v2 := q2.v9
  have g1 := Ji c.id (by omega) (by omega)
  have g2 := Ji c.version (by omega) (by omega)
  have g3 := q2.code
  have g4 := q2.name
  have fin : ∀ s : Str, s.length <= 1000 -> (out ++ ([s] : List Str)).length = i + 1 /\ ∀ x, x ∈ out ++ ([s] : List Str) -> x.length <= 1000 := fun s hs => ⟨by simp [hI.1], fun x hx => by
   rcases List.mem_append.1 hx with hx | hx
   ·exact hI.2 x hx
   ·rw [List.mem_singleton.1 hx]; exact hs⟩
  have hol : out.length <= 8 := by omega
  simp only [bK hx, cond_true, aB, hx, hc, Int.toNat_natCast, zA, qL c.id (by omega) (by omega), qL c.version (by omega) (by omega), jm c.id (by omega) (by omega), jm c.version (by omega) (by omega), bI hx (by omega)]
  generalize Go.Lib.itoa c.id = A at g1 ⊢
  generalize Go.Lib.itoa c.version = B at g2 ⊢
  rcases q2.kind with k1 | k1 | k1 | k1
  ·exact absurd k1 hnk
  ·simp (disch := (simp only [List.length_append, List.length_cons, List.length_nil]; omega)) only [k1, gdp, zA]
   exact ⟨_, rfl, rfl, fin _ (by simp only [List.length_append, List.length_cons, List.length_nil]; omega)⟩
  ·have hn := Zq c hL (by rw [Gg c hL, q1]) k1
   have g5 := Ji c.n hn.1 (by omega)
   rw [qL c.n (by omega) (by omega), jm c.n (by omega) (by omega)]
   generalize Go.Lib.itoa c.n = C at g5 ⊢
   simp (disch := (simp only [List.length_append, List.length_cons, List.length_nil]; omega)) only [k1, gdp, zA]
   exact ⟨_, rfl, rfl, fin _ (by simp only [List.length_append, List.length_cons, List.length_nil]; omega)⟩
  ·simp (disch := (simp only [List.length_append, List.length_cons, List.length_nil]; omega)) only [k1, gdp, zA]
   exact ⟨_, rfl, rfl, fin _ (by simp only [List.length_append, List.length_cons, List.length_nil]; omega)⟩
end Go.Proofs.YtgfjbogcidlaeaaGreatDoor
