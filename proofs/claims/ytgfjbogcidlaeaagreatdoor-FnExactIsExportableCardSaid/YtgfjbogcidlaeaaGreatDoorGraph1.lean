import Derived.Test.YtgfjbogcidlaeaaGreatDoorSplit1
import Derived.Test.YtgfjbogcidlaeaaGreatDoorHas1
import Derived.Test.YtgfjbogcidlaeaaGreatDoorMark0
/- Plain laws: uses between parts, what they reach: the two programs alike. -/
set_option linter.unusedSimpArgs false
set_option linter.unusedVariables false
namespace Go.Proofs.YtgfjbogcidlaeaaGreatDoor
open Go.Abs Go.Proofs
theorem sHas_ok (xs : List Int) (b : Int) (hl : xs.length <= 1048576) : sL1HasInt xs b = some (xs.contains b) := by
 unfold sL1HasInt
 refine of_ex (list_run (fun (_ : Unit) (i : Nat) => ((xs, b, (i : Int)) : (List Int) × Int × Int)) xs (fun i _ => (xs.take i).contains b = false) _ (fun i x _ hx hI => ?_) (fun _ hI => ?_) () rfl)
 ·simp only [cnt_in hx, cond_true, idx_nat, hx, Option.bind_some, cnt_up hx (by omega)]
  cases hc : (x == b) with
  | true =>
   refine .inr ⟨true, rfl, ?_⟩
   have e : x = b := by simpa using hc
   have := List.mem_of_getElem? hx
   rw [e] at this
   simpa using this
  | false => exact .inl ⟨(), rfl, take_has hx hI hc⟩
 ·rw [List.take_length] at hI
  exact ⟨false, by simp only [cnt_out, cond_false], hI.symm⟩
theorem fold_take {σ α : Type} (f : σ -> α -> σ) (z : σ) {xs : List α} {i : Nat} {x : α} (h : xs[i]? = some x) : (xs.take (i + 1)).foldl f z = f ((xs.take i).foldl f z) x := by
 obtain ⟨hi, rfl⟩ := List.getElem?_eq_some_iff.1 h
 rw [List.take_add_one, h, List.foldl_append]
 rfl
theorem cut_to {α : Type} (xs : List α) (n : Nat) (h : n <= xs.length) : eff.cutL xs none (some (n : Int)) = some (xs.take n) := by
 unfold eff.cutL
 simp only [Option.getD_none, Option.getD_some]
 rw [if_pos ⟨by omega, by omega, by omega⟩]
 simp
theorem cut_off {α : Type} (xs : List α) (n : Nat) (h : n <= xs.length) : eff.cutL xs (some (n : Int)) none = some (xs.drop n) := by
 unfold eff.cutL
 simp only [Option.getD_none, Option.getD_some]
 rw [if_pos ⟨by omega, by omega, by omega⟩]
 simp
theorem sSet_ok (xs : List Int) (hl : xs.length <= 1048576) : sL23Set xs = some (setI xs) := by
 rw [<- setZ_eq]
 unfold sL23Set
 refine of_ex (list_run (fun (s : List Int) (i : Nat) => ((xs, s, (i : Int)) : (List Int) × (List Int) × Int)) xs (fun i s => s.length <= i /\ s = (xs.take i).foldl insZ []) _ (fun i y s hy hI => .inl ?_) (fun s hI => ?_) [] ⟨Nat.le_refl _, rfl⟩)
 ·obtain ⟨hs, es⟩ := hI
  have hi := (List.getElem?_eq_some_iff.1 hy).1
  have step := fold_take insZ [] hy
  rw [<- es] at step
  unfold insZ at step
  simp only [cnt_in hy, cond_true, idx_nat, hy, Option.bind_some, sHas_ok s y (by omega), cnt_up hy (by omega)]
  cases hd : s.contains y with
  | true =>
   rw [hd, if_pos rfl] at step
   exact ⟨s, rfl, by omega, step.symm⟩
  | false =>
   rw [hd, if_neg (by simp)] at step
   have put : ∀ j : Nat, j <= s.length -> ((eff.cutL s none (some (j : Int))).bind fun r8 =>
           (gd (0 + r8.length)).bind fun _ =>
           (idx xs (i : Int)).bind fun e9 =>
           (gd (([] ++ r8).length + [e9].length)).bind fun _ =>
           (eff.cutL s (some (j : Int)) none).bind fun r10 =>
           (gd ((([] ++ r8) ++ [e9]).length + r10.length)).bind fun _ =>
           some (.inl (xs, (([] ++ r8) ++ [e9]) ++ r10, ((i + 1 : Nat) : Int)) : ((List Int) × (List Int) × Int) ⊕ (List Int))) = some (.inl (xs, s.take j ++ [y] ++ s.drop j, ((i + 1 : Nat) : Int))) := fun j hj => by
    simp only [cut_to s j hj, cut_off s j hj, Option.bind_some, idx_nat, hy]
    rw [gdp (by simp; omega), Option.bind_some, gdp (by simp; omega), Option.bind_some, gdp (by simp; omega), Option.bind_some]
    rfl
   simp only [cond_false]
   refine ⟨putZ y s, ?_, ?_, step.symm⟩
   ·refine of_ex (list_run (fun (_ : Unit) (j : Nat) => ((xs, s, (i : Int), (j : Int)) : (List Int) × (List Int) × Int × Int)) s (fun j _ => ∀ x, x ∈ s.take j -> x < y) _ (fun j x _ hx hI => ?_) (fun _ hI => ?_) () (by simp))
    ·have hj := (List.getElem?_eq_some_iff.1 hx).1
     have pj := put j (by omega)
     simp only [cnt_in hx, cond_true, cnt_up hx (by omega), cnt_up hy (by omega)]
     rw [pj]
     simp only [idx_nat, hx, hy, Int.toNat_natCast, Option.bind_some]
     by_cases hlt : x < y
     ·rw [decide_eq_true hlt]
      refine .inl ⟨(), rfl, fun z hz => ?_⟩
      rw [List.take_add_one, hx] at hz
      rcases List.mem_append.1 hz with hz | hz
      ·exact hI z hz
      ·have : z = x := by simpa using hz
       rw [this]; exact hlt
     ·rw [decide_eq_false hlt]
      refine .inr ⟨_, rfl, ?_⟩
      rw [putZ_eq y s j (by omega) hI (fun z hz => by rw [hx] at hz; cases hz; exact hlt)]
    ·have pj := put s.length (Nat.le_refl _)
     simp only [cnt_out, cond_false, cnt_up hy (by omega)]
     rw [pj]
     refine ⟨_, rfl, ?_⟩
     rw [putZ_eq y s s.length (Nat.le_refl _) hI (fun z hz => by rw [List.getElem?_eq_none (Nat.le_refl _)] at hz; cases hz)]
   ·have : ∀ s : List Int, (putZ y s).length = s.length + 1 := by
     intro s
     induction s with
     | nil => rfl
     | cons z r ih => unfold putZ; split <;> simp [ih]
    rw [this]; omega
 ·simp only [cnt_out, cond_false]
  refine ⟨_, rfl, ?_⟩
  rw [hI.2, List.take_length]
def resF (ps : List GPart) (s : Str) : Option Int := if 0 <= resOf (defsOf s 0 ps) then some (resOf (defsOf s 0 ps)) else none
noncomputable def dirL (ps : List GPart) (i : Int) : List Int := if 0 <= i then match ps[i.toNat]? with
  | some p => setI ((usesL p).filterMap (resF ps))
  | none => []
 else []
theorem resF_mem {ps : List GPart} {us : List Str} {k : Int} (h : k ∈ us.filterMap (resF ps)) : 0 <= k /\ k < (ps.length : Int) := by
 obtain ⟨s, _, h2⟩ := List.mem_filterMap.1 h
 unfold resF at h2
 split at h2
 ·rename_i h0
  cases h2
  obtain ⟨m, e, hm⟩ := res_lt ps s h0
  rw [e]; omega
 ·cases h2
theorem filter_take {ps : List GPart} {us : List Str} {i : Nat} {s : Str} (h : us[i]? = some s) : (us.take (i + 1)).filterMap (resF ps) = if 0 <= resOf (defsOf s 0 ps) then (us.take i).filterMap (resF ps) ++ [resOf (defsOf s 0 ps)] else (us.take i).filterMap (resF ps) := by
 rw [List.take_add_one, h, List.filterMap_append]
 unfold resF
 split <;> simp_all
theorem dirL_ok (ps : List GPart) (i : Nat) (p : GPart) (h : ps[i]? = some p) : dirL ps (i : Int) = setI ((usesL p).filterMap (resF ps)) := by
 unfold dirL
 rw [if_pos (by omega), Int.toNat_natCast, h]
theorem gok (ps : List GPart) : GOk (dirL ps) ps.length where
 rng := fun i k h => by
  unfold dirL at h
  split at h
  ·split at h
   ·exact resF_mem ((setI_mem _ _).1 h)
   ·cases h
  ·cases h
 srt := fun i => by
  unfold dirL
  split
  ·split
   ·exact setI_sorted _
   ·exact .nil
  ·exact .nil
theorem set_small (ps : List GPart) (hl : ps.length <= 1000) (us : List Str) (hu : us.length <= 1000) : iSorted (us.filterMap (resF ps)) = some (setI (us.filterMap (resF ps))) /\ sL23Set (us.filterMap (resF ps)) = some (setI (us.filterMap (resF ps))) := by
 have hfl := List.length_filterMap_le (resF ps) us
 refine ⟨?_, sSet_ok _ (by omega)⟩
 unfold iSorted libSet
 rw [gdp (by omega), Option.bind_some, if_pos]
 rw [List.all_eq_true]
 intro k hk
 have := resF_mem hk
 unfold i64B
 rw [decide_eq_true (by omega), decide_eq_true (by omega)]
 rfl
theorem iDirect_ok (ps : List GPart) (hl : ps.length <= 1000) (hp : ∀ p, p ∈ ps -> PartP p) (i : Int) : iDirectUses ps i = some (dirL ps i) := by
 unfold iDirectUses
 by_cases h0 : i < 0
 ·rw [decide_eq_true h0, cond_true]
  unfold dirL
  rw [if_neg (by omega)]
 rw [decide_eq_false h0, cond_false]
 obtain ⟨n, rfl⟩ : ∃ n : Nat, i = (n : Int) := ⟨i.toNat, by omega⟩
 by_cases h1 : (n : Int) >= (ps.length : Int)
 ·rw [decide_eq_true h1, cond_true]
  unfold dirL
  rw [if_pos (by omega), Int.toNat_natCast, List.getElem?_eq_none (by omega)]
 rw [decide_eq_false h1, cond_false]
 obtain ⟨p, hx⟩ : ∃ p, ps[n]? = some p := ⟨_, List.getElem?_eq_getElem (by omega)⟩
 obtain ⟨u1, u2, u3⟩ := uses_ok p (hp p (List.mem_of_getElem? hx))
 obtain ⟨q1, q2⟩ := set_small ps hl (usesL p) u3
 rw [idx_nat, hx, Option.bind_some, rePart_id, u1, Option.bind_some, dirL_ok ps n p hx]
 refine of_ex (list_run (fun (out : List Int) (j : Nat) => ((ps, out, usesL p, ((usesL p).length : Int), (j : Int)) : (List GPart) × (List Int) × (List Str) × Int × Int)) (usesL p) (fun j out => out = ((usesL p).take j).filterMap (resF ps)) _ (fun j s out hs hI => .inl ?_) (fun out hI => ?_) [] rfl)
 ·have hj := (List.getElem?_eq_some_iff.1 hs).1
  have hol : out.length <= j := by
   rw [hI]
   have := List.length_filterMap_le (resF ps) ((usesL p).take j)
   rw [List.length_take] at this
   omega
  have hg : ∀ n : Int, gd (out.length + [n].length) = some () := fun n => gdp (by simp; omega)
  have hft := filter_take (ps := ps) hs
  rw [<- hI] at hft
  simp only [cnt_in hs, cond_true, idx_nat, hs, Int.toNat_natCast, Option.bind_some, iRes_ok ps s (by omega), hg, cnt_up hs (by omega)]
  by_cases hr : 0 <= resOf (defsOf s 0 ps)
  ·rw [decide_eq_true (show resOf (defsOf s 0 ps) >= 0 from hr)]
   exact ⟨_, rfl, by rw [hft, if_pos hr]⟩
  ·rw [decide_eq_false (show ¬ resOf (defsOf s 0 ps) >= 0 from hr)]
   exact ⟨_, rfl, by rw [hft, if_neg hr]⟩
 ·rw [List.take_length] at hI
  subst hI
  simp only [cnt_out, cond_false, q1, Option.bind_some]
  exact ⟨_, rfl, rfl⟩
theorem sDirect_ok (ps : List GPart) (hl : ps.length <= 1000) (hp : ∀ p, p ∈ ps -> PartP p) (i : Int) : sDirectUses ps i = some (dirL ps i) := by
 unfold sDirectUses
 have hw : w64 ((ps.length : Int) - 1) = (ps.length : Int) - 1 := w64_id (by omega) (by omega)
 rw [hw, within_some, Option.bind_some]
 by_cases h0 : i < 0
 ·rw [decide_eq_false (show ¬ i >= 0 by omega)]
  unfold dirL
  rw [if_neg (by omega)]; rfl
 obtain ⟨n, rfl⟩ : ∃ n : Nat, i = (n : Int) := ⟨i.toNat, by omega⟩
 by_cases h1 : (n : Int) >= (ps.length : Int)
 ·rw [decide_eq_false (show ¬ (n : Int) <= (ps.length : Int) - 1 by omega), Bool.and_false]
  unfold dirL
  rw [if_pos (by omega), Int.toNat_natCast, List.getElem?_eq_none (by omega)]; rfl
 rw [decide_eq_true (show (n : Int) >= 0 by omega), decide_eq_true (show (n : Int) <= (ps.length : Int) - 1 by omega)]
 simp only [Bool.and_self, Bool.not_true, cond_false]
 obtain ⟨p, hx⟩ : ∃ p, ps[n]? = some p := ⟨_, List.getElem?_eq_getElem (by omega)⟩
 obtain ⟨u1, u2, u3⟩ := uses_ok p (hp p (List.mem_of_getElem? hx))
 obtain ⟨q1, q2⟩ := set_small ps hl (usesL p) u3
 rw [idx_nat, hx, Option.bind_some, rePart_id, u2, Option.bind_some, dirL_ok ps n p hx]
 refine of_ex (list_run (fun (out : List Int) (j : Nat) => ((ps, out, usesL p, (j : Int)) : (List GPart) × (List Int) × (List Str) × Int)) (usesL p) (fun j out => out = ((usesL p).take j).filterMap (resF ps)) _ (fun j s out hs hI => .inl ?_) (fun out hI => ?_) [] rfl)
 ·have hj := (List.getElem?_eq_some_iff.1 hs).1
  have hol : out.length <= j := by
   rw [hI]
   have := List.length_filterMap_le (resF ps) ((usesL p).take j)
   rw [List.length_take] at this
   omega
  have hg : ∀ n : Int, gd (out.length + [n].length) = some () := fun n => gdp (by simp; omega)
  have hft := filter_take (ps := ps) hs
  rw [<- hI] at hft
  simp only [cnt_in hs, cond_true, idx_nat, hs, Int.toNat_natCast, Option.bind_some, sRes_ok ps s (by omega), hg, cnt_up hs (by omega)]
  by_cases hr : 0 <= resOf (defsOf s 0 ps)
  ·rw [decide_eq_true (show resOf (defsOf s 0 ps) >= 0 from hr)]
   exact ⟨_, rfl, by rw [hft, if_pos hr]⟩
  ·rw [decide_eq_false (show ¬ resOf (defsOf s 0 ps) >= 0 from hr)]
   exact ⟨_, rfl, by rw [hft, if_neg hr]⟩
 ·rw [List.take_length] at hI
  subst hI
  simp only [cnt_out, cond_false, q2, Option.bind_some]
  exact ⟨_, rfl, rfl⟩
end Go.Proofs.YtgfjbogcidlaeaaGreatDoor
/- Plain laws: all uses and cycles: the two programs alike. -/
set_option linter.unusedSimpArgs false
set_option linter.unusedVariables false
namespace Go.Proofs.YtgfjbogcidlaeaaGreatDoor
open Go.Abs Go.Proofs
structure Ps (ps : List GPart) : Prop where
 len : ps.length <= 8
 ok : ∀ p, p ∈ ps -> PartP p
theorem sorted_small {xs : List Int} {n : Nat} (hn : n <= 1000) (hl : xs.length <= n) (hr : ∀ x, x ∈ xs -> 0 <= x /\ x < (n : Int)) : iSorted xs = some (setI xs) /\ sL23Set xs = some (setI xs) := by
 refine ⟨?_, sSet_ok _ (by omega)⟩
 unfold iSorted libSet
 rw [gdp (by omega), Option.bind_some, if_pos]
 rw [List.all_eq_true]
 intro k hk
 have := hr k hk
 unfold i64B
 rw [decide_eq_true (by omega), decide_eq_true (by omega)]
 rfl
theorem reach_rng {D : Int -> List Int} {n : Nat} (h : GOk D n) {i k : Int} (hr : Rch D i k) : 0 <= k /\ k < (n : Int) := by
 cases hr with
 | one h1 => exact h.rng _ _ h1
 | more _ h1 => exact h.rng _ _ h1
theorem iAll_ok {ps : List GPart} (h : Ps ps) (i : Int) : ∃ l, iAllUses ps i = some l /\ l.Pairwise (· < ·) /\ ∀ x, x ∈ l ↔ Rch (dirL ps) i x := by
 have hl := h.len
 obtain ⟨out, e, h1, h2⟩ := reach_ok (Do := iDirectUses ps) (D := dirL ps) (n := ps.length) (by omega) (gok ps) (fun k _ _ => iDirect_ok ps (by omega) h.ok k) i
 refine ⟨setI out, ?_, setI_sorted _, fun x => by rw [setI_mem, h2]⟩
 unfold iAllUses
 rw [iDirect_ok ps (by omega) h.ok, Option.bind_some, e, Option.bind_some]
 exact (sorted_small (n := ps.length) (by omega) h1 fun x hx => reach_rng (gok ps) ((h2 x).1 hx)).1
theorem near_ok {ps : List GPart} (h : Ps ps) (i : Int) : sL23Near ps i false = some (dirL ps i) := by
 have hl := h.len
 unfold sL23Near
 rw [cond_false, sDirect_ok ps (by omega) h.ok, Option.bind_some]
structure MetI (D : Int -> List Int) (n : Nat) (i : Int) (j : Nat) (out : List Int) : Prop where
 nd : out.Nodup
 sub : ∀ k, k ∈ out -> Rch D i k
 one : ∀ k, k ∈ D i -> k ∈ out
 more : ∀ k, k ∈ out.take j -> ∀ x, x ∈ D k -> x ∈ out
theorem MetI.len {D : Int -> List Int} {n : Nat} {i : Int} {j : Nat} {out : List Int} (h : MetI D n i j out) (hG : GOk D n) : out.length <= n := rng_len h.nd fun k hk => reach_rng hG (h.sub k hk)
structure MetJ (D : Int -> List Int) (n : Nat) (i : Int) (j : Nat) (e : Int) (m : Nat) (old out : List Int) : Prop where
 base : MetI D n i j out
 ext : ∃ t, out = old ++ t
 at_ : out[j]? = some e
 got : ∀ x, x ∈ (D e).take m -> x ∈ out
theorem MetJ.put {D : Int -> List Int} {n : Nat} {i : Int} {j m : Nat} {e x : Int} {old out : List Int} (h : MetJ D n i j e m old out) (hx : (D e)[m]? = some x) (hn : out.contains x = false) : MetJ D n i j e (m + 1) old (out ++ [x]) := by
 have hno : x ∉ out := by simpa using hn
 have hj := (List.getElem?_eq_some_iff.1 h.at_).1
 have hxe := List.mem_of_getElem? hx
 have hee := List.mem_of_getElem? h.at_
 refine ⟨⟨?_, fun k hk => ?_, fun k hk => List.mem_append_left _ (h.base.one k hk), fun k hk y hy => ?_⟩, ?_, ?_, fun y hy => ?_⟩
 ·rw [List.nodup_append]
  exact ⟨h.base.nd, by simp, fun a ha b hb => by rw [List.mem_singleton.1 hb]; exact fun q => hno (q ▸ ha)⟩
 ·rcases List.mem_append.1 hk with hk | hk
  ·exact h.base.sub k hk
  ·rw [List.mem_singleton.1 hk]; exact .more (h.base.sub e hee) hxe
 ·rw [List.take_append_of_le_length (by omega)] at hk
  exact List.mem_append_left _ (h.base.more k hk y hy)
 ·obtain ⟨t, rfl⟩ := h.ext
  exact ⟨t ++ [x], by rw [List.append_assoc]⟩
 ·rw [List.getElem?_append_left hj]; exact h.at_
 ·rw [List.take_add_one, hx] at hy
  rcases List.mem_append.1 hy with hy | hy
  ·exact List.mem_append_left _ (h.got y hy)
  ·have : y = x := by simpa using hy
   rw [this]; simp
theorem MetJ.pass {D : Int -> List Int} {n : Nat} {i : Int} {j m : Nat} {e x : Int} {old out : List Int} (h : MetJ D n i j e m old out) (hx : (D e)[m]? = some x) (hn : out.contains x = true) : MetJ D n i j e (m + 1) old out := by
 refine ⟨h.base, h.ext, h.at_, fun y hy => ?_⟩
 rw [List.take_add_one, hx] at hy
 rcases List.mem_append.1 hy with hy | hy
 ·exact h.got y hy
 ·have : y = x := by simpa using hy
  rw [this]; simpa using hn
theorem MetJ.done {D : Int -> List Int} {n : Nat} {i : Int} {j : Nat} {e : Int} {old out : List Int} (h : MetJ D n i j e (D e).length old out) : MetI D n i (j + 1) out := by
 refine ⟨h.base.nd, h.base.sub, h.base.one, fun k hk x hx => ?_⟩
 rw [List.take_add_one, h.at_] at hk
 rcases List.mem_append.1 hk with hk | hk
 ·exact h.base.more k hk x hx
 ·have : k = e := by simpa using hk
  subst this
  exact h.got x (by rw [List.take_length]; exact hx)
theorem MetI.start {D : Int -> List Int} {n : Nat} (hG : GOk D n) (i : Int) : MetI D n i 0 (D i) := ⟨lt_nodup (hG.srt i), fun k hk => .one hk, fun k hk => hk, fun k hk => by simp at hk⟩
theorem MetI.end_ {D : Int -> List Int} {n : Nat} {i : Int} {out : List Int} (h : MetI D n i out.length out) (x : Int) : x ∈ out ↔ Rch D i x :=
 Rch.closed h.sub h.one (fun k hk => h.more k (by rw [List.take_length]; exact hk)) x
theorem all_wrap {ρ : Type} {z : Option ρ} {P : ρ -> Prop} (h : ∃ r, z = some r /\ P r) : ∃ r, (z.bind fun r1 => some r1) = some r /\ P r := by
 obtain ⟨r, e, p⟩ := h
 exact ⟨r, by rw [e]; rfl, p⟩
theorem sAll_ok {ps : List GPart} (h : Ps ps) (i : Int) : ∃ l, sAllUses ps i = some l /\ l.Pairwise (· < ·) /\ ∀ x, x ∈ l ↔ Rch (dirL ps) i x := by
 have hl := h.len
 have hG := gok ps
 unfold sAllUses sL23All
 rw [near_ok h, Option.bind_some]
 refine all_wrap (loop_m (fun m (x : (List GPart) × Bool × (List Int) × Int) => ∃ (j : Nat) (out : List Int), x = (ps, false, out, (j : Int)) /\ m + j = ps.length /\ MetI (dirL ps) ps.length i j out) (fun l : List Int => l.Pairwise (· < ·) /\ ∀ x, x ∈ l ↔ Rch (dirL ps) i x) (fun m x hI => ?_) ps.length (ps, false, dirL ps i, 0) ⟨0, _, rfl, rfl, MetI.start hG i⟩)
 obtain ⟨j, out, rfl, hm, hI⟩ := hI
 have hol := hI.len hG
 by_cases hj : j < out.length
 ·have hx := List.getElem?_eq_getElem hj
  generalize out[j] = e at hx
  simp only [cnt_in hx, cond_true, idx_nat, hx, Int.toNat_natCast, Option.bind_some, near_ok h]
  left
  have hin : ∃ r, loopD (fun (x6 : (List GPart) × Bool × (List Int) × Int × (List Int) × Int) =>
    bif (decide (x6.2.2.2.2.2 < (x6.2.2.2.2.1.length : Int))) then
     (idx x6.2.2.2.2.1 x6.2.2.2.2.2).bind fun _ =>
     (x6.2.2.2.2.1[x6.2.2.2.2.2.toNat]?).bind fun e8 =>
     (sL1HasInt x6.2.2.1 e8).bind fun r9 =>
     bif (!r9) then
      (idx x6.2.2.2.2.1 x6.2.2.2.2.2).bind fun _ =>
      (x6.2.2.2.2.1[x6.2.2.2.2.2.toNat]?).bind fun e11 =>
      (gd (x6.2.2.1.length + [e11].length)).bind fun _ =>
      some (.inl (x6.1, x6.2.1, x6.2.2.1 ++ [e11], x6.2.2.2.1, x6.2.2.2.2.1, w64 (x6.2.2.2.2.2 + 1)))
     else
      some (.inl (x6.1, x6.2.1, x6.2.2.1, x6.2.2.2.1, x6.2.2.2.2.1, w64 (x6.2.2.2.2.2 + 1)))
    else
     some (.inr ((.inl (x6.1, x6.2.1, x6.2.2.1, w64 (x6.2.2.2.1 + 1))) : ((List GPart) × Bool × (List Int) × Int) ⊕ (List Int)))) (ps, false, out, (j : Int), dirL ps e, 0) = some r /\ ∃ out', r = .inl (ps, false, out', ((j + 1 : Nat) : Int)) /\ MetI (dirL ps) ps.length i (j + 1) out' := by
   refine list_run (fun (s : List Int) (k : Nat) => ((ps, false, s, (j : Int), dirL ps e, (k : Int)) : (List GPart) × Bool × (List Int) × Int × (List Int) × Int)) (dirL ps e) (fun k s => MetJ (dirL ps) ps.length i j e k out s) (fun (r : ((List GPart) × Bool × (List Int) × Int) ⊕ (List Int)) => ∃ out', r = .inl (ps, false, out', ((j + 1 : Nat) : Int)) /\ MetI (dirL ps) ps.length i (j + 1) out') (fun k x s hx hJ => .inl ?_) (fun s hJ => ?_) out ⟨hI, ⟨[], by simp⟩, hx, fun x hx => by simp at hx⟩
   ·have hsl := hJ.base.len hG
    have hdl := hG.len e
    simp only [cnt_in hx, cond_true, idx_nat, hx, Int.toNat_natCast, Option.bind_some, sHas_ok s x (by omega), gdp (show s.length + [x].length <= 34359738368 by simp; omega), cnt_up hx (by omega)]
    cases hc : s.contains x with
    | true => exact ⟨s, rfl, hJ.pass hx hc⟩
    | false => exact ⟨s ++ [x], rfl, hJ.put hx hc⟩
   ·simp only [cnt_out, cond_false]
    refine ⟨_, rfl, s, ?_, hJ.done⟩
    rw [show w64 ((j : Int) + 1) = ((j + 1 : Nat) : Int) by rw [w64_id (by omega) (by omega)]; omega]
  obtain ⟨r, e1, out', rfl, hI'⟩ := hin
  refine ⟨(ps, false, out', ((j + 1 : Nat) : Int)), m - 1, by omega, ⟨j + 1, out', rfl, by omega, hI'⟩, ?_⟩
  exact e1
 ·have hle : out.length <= j := by omega
  have hd : decide ((j : Int) < (out.length : Int)) = false := by simpa using hle
  simp only [hd, cond_false]
  have hI2 : MetI (dirL ps) ps.length i out.length out := ⟨hI.nd, hI.sub, hI.one, fun k hk => hI.more k (by rw [List.take_of_length_le hle]; rw [List.take_length] at hk; exact hk)⟩
  right
  refine ⟨setI out, ?_, setI_sorted _, fun x => by rw [setI_mem, hI2.end_]⟩
  rw [(sorted_small (n := ps.length) (by omega) hol fun x hx => reach_rng hG (hI.sub x hx)).2]
  rfl
open Classical in
noncomputable def cycB (ps : List GPart) (i : Int) : Bool := decide (Rch (dirL ps) i i)
theorem has_cyc {ps : List GPart} {i : Int} {l : List Int} (h : ∀ x, x ∈ l ↔ Rch (dirL ps) i x) : l.contains i = cycB ps i := by
 classical
 unfold cycB
 by_cases hr : Rch (dirL ps) i i
 ·rw [decide_eq_true hr]; simpa using (h i).2 hr
 ·rw [decide_eq_false hr]
  have : i ∉ l := fun hm => hr ((h i).1 hm)
  simpa using this
theorem all_len {ps : List GPart} {i : Int} {l : List Int} (hs : l.Pairwise (· < ·)) (h : ∀ x, x ∈ l ↔ Rch (dirL ps) i x) : l.length <= ps.length := rng_len (lt_nodup hs) fun x hx => reach_rng (gok ps) ((h x).1 hx)
theorem iCyc_ok {ps : List GPart} (h : Ps ps) (i : Int) : iOnCycle ps i = some (cycB ps i) := by
 obtain ⟨l, e, hs, hm⟩ := iAll_ok h i
 have := all_len hs hm
 have := h.len
 unfold iOnCycle
 rw [e, Option.bind_some, iHas_ok l i (by omega), Option.bind_some, has_cyc hm]
theorem sCyc_ok {ps : List GPart} (h : Ps ps) (i : Int) : sOnCycle ps i = some (cycB ps i) := by
 obtain ⟨l, e, hs, hm⟩ := sAll_ok h i
 have := all_len hs hm
 have := h.len
 unfold sOnCycle
 rw [e, Option.bind_some, sHas_ok l i (by omega), Option.bind_some, has_cyc hm]
end Go.Proofs.YtgfjbogcidlaeaaGreatDoor
/- Plain laws: the smallest cycle is there where there is a cycle. -/
set_option linter.unusedSimpArgs false
set_option linter.unusedVariables false
namespace Go.Proofs.YtgfjbogcidlaeaaGreatDoor
open Go.Abs Go.Proofs
theorem dir_len (ps : List GPart) (i : Int) : (dirL ps i).length <= ps.length := (gok ps).len i
theorem users_ok {ps : List GPart} (h : Ps ps) (i : Int) : ∃ l, iUsers ps i = some l /\ l.length <= ps.length /\ ∀ k, k ∈ l -> 0 <= k /\ k < (ps.length : Int) := by
 have hl := h.len
 unfold iUsers
 refine list_run (fun (s : List Int) (j : Nat) => ((ps, i, s, (ps.length : Int), (j : Int)) : (List GPart) × Int × (List Int) × Int × Int)) ps (fun j s => s.length <= j /\ ∀ k, k ∈ s -> 0 <= k /\ k < (ps.length : Int)) (fun l : List Int => l.length <= ps.length /\ ∀ k, k ∈ l -> 0 <= k /\ k < (ps.length : Int)) (fun j p s hx hI => .inl ?_) (fun s hI => ?_) [] ⟨Nat.le_refl _, fun k hk => by cases hk⟩
 ·have hj := (List.getElem?_eq_some_iff.1 hx).1
  have hd := dir_len ps (j : Int)
  simp only [cnt_in hx, cond_true, iDirect_ok ps (by omega) h.ok, Option.bind_some, iHas_ok (dirL ps (j : Int)) i (by omega), gdp (show s.length + [(j : Int)].length <= 34359738368 by simp; omega), cnt_up hx (by omega)]
  cases (dirL ps (j : Int)).contains i with
  | true =>
   refine ⟨_, rfl, by simp; omega, fun k hk => ?_⟩
   rcases List.mem_append.1 hk with hk | hk
   ·exact hI.2 k hk
   ·rw [List.mem_singleton.1 hk]; omega
  | false => exact ⟨s, rfl, by omega, hI.2⟩
 ·simp only [cnt_out, cond_false]
  exact ⟨s, rfl, hI⟩
def openN (out : List Int) : Nat := (out.filter fun x => decide (x < 0)).length
theorem openN_set : ∀ (out : List Int) (k : Nat) (x n : Int), out[k]? = some x -> x < 0 -> 0 <= n -> openN (out.set k n) + 1 = openN out
 | [], k, x, n, h, _, _ => by simp at h
 | y :: r, 0, x, n, h, hx, hn => by
  have e : y = x := by simpa using h
  subst e
  unfold openN
  simp [List.filter_cons, hx, show ¬ n < 0 by omega]
 | y :: r, k + 1, x, n, h, hx, hn => by
  have ih := openN_set r k x n (by simpa using h) hx hn
  unfold openN at ih ⊢
  simp only [List.set_cons_succ, List.filter_cons]
  by_cases hy : y < 0
  ·simp only [decide_eq_true hy, if_true, List.length_cons]; omega
  ·simp only [decide_eq_false hy]; simpa using ih
theorem openN_le (out : List Int) : openN out <= out.length := List.length_filter_le _ _
structure Far (n : Nat) (b : Int) (out : List Int) : Prop where
 len : out.length = n
 le : ∀ x, x ∈ out -> x <= b
theorem mem_set' {α : Type} {l : List α} {k : Nat} {a x : α} (h : x ∈ l.set k a) : x ∈ l \/ x = a := by
 rcases List.mem_or_eq_of_mem_set h with h | h
 ·exact .inl h
 ·exact .inr h
theorem Far.set {n : Nat} {b : Int} {out : List Int} (h : Far n b out) (k : Nat) {x : Int} (hx : x <= b) : Far n b (out.set k x) := by
 refine ⟨by rw [List.length_set]; exact h.len, fun y hy => ?_⟩
 rcases mem_set' hy with hy | rfl
 ·exact h.le y hy
 ·exact hx
theorem Far.mono {n : Nat} {b b' : Int} {out : List Int} (h : Far n b out) (hb : b <= b') : Far n b' out := ⟨h.len, fun x hx => Int.le_trans (h.le x hx) hb⟩
theorem idx_rng {xs : List Int} {k : Int} (h0 : 0 <= k) (h1 : k < (xs.length : Int)) : ∃ x, idx xs k = some x /\ xs[k.toNat]? = some x /\ x ∈ xs := by
 have hk : k.toNat < xs.length := by omega
 refine ⟨xs[k.toNat], ?_, List.getElem?_eq_getElem hk, List.getElem_mem hk⟩
 unfold idx
 rw [if_pos h0]
 exact List.getElem?_eq_getElem hk
theorem steps_ok {ps : List GPart} (h : Ps ps) (i : Int) (hi : 0 <= i) (hi2 : i < (ps.length : Int)) : ∃ out, iStepsTo ps i = some out /\ Far ps.length 1000 out := by
 have hl := h.len
 unfold iStepsTo
 refine list_run (fun (s : List Int) (j : Nat) => ((ps, i, s, (ps.length : Int), (j : Int)) : (List GPart) × Int × (List Int) × Int × Int)) ps (fun j s => s.length = j /\ ∀ x, x ∈ s -> x <= 1) (fun out => Far ps.length 1000 out) (fun j p s hx hI => .inl ?_) (fun s hI => ?_) [] ⟨rfl, fun k hk => by cases hk⟩
 ·have hj := (List.getElem?_eq_some_iff.1 hx).1
  simp only [cnt_in hx, cond_true, gdp (show s.length + [(-1 : Int)].length <= 34359738368 by simp; omega), Option.bind_some, cnt_up hx (by omega)]
  refine ⟨_, rfl, by simp [hI.1], fun x hx => ?_⟩
  rcases List.mem_append.1 hx with hx | hx
  ·exact hI.2 x hx
  ·rw [List.mem_singleton.1 hx]; omega
 simp only [cnt_out, cond_false]
 suffices hloop : ∃ out, loopD (fun (x2 : (List GPart) × (List Int) × (List Int) × Int) =>
       bif (decide ((x2.2.2.1.length : Int) > 0)) then
        loopD (fun (x3 : (List GPart) × (List Int) × Int × (List Int) × (List Int) × Int × Int) =>
         bif (decide (x3.2.2.2.2.2.2 < x3.2.2.2.2.2.1)) then
          (idx x3.2.2.2.2.1 x3.2.2.2.2.2.2).bind fun _ =>
          (x3.2.2.2.2.1[x3.2.2.2.2.2.2.toNat]?).bind fun e5 =>
          (iUsers x3.1 e5).bind fun r6 =>
          loopD (fun (x7 : (List GPart) × (List Int) × Int × (List Int) × (List Int) × Int × Int × (List Int) × Int × Int) =>
           bif (decide (x7.2.2.2.2.2.2.2.2.2 < x7.2.2.2.2.2.2.2.2.1)) then
            (idx x7.2.2.2.2.2.2.2.1 x7.2.2.2.2.2.2.2.2.2).bind fun _ =>
            (x7.2.2.2.2.2.2.2.1[x7.2.2.2.2.2.2.2.2.2.toNat]?).bind fun e9 =>
            (idx x7.2.1 e9).bind fun _ =>
            (x7.2.1[e9.toNat]?).bind fun e11 =>
            bif (decide (e11 < 0)) then
             (idx x7.2.1 e9).bind fun _ =>
             (x7.2.1[e9.toNat]?).bind fun e13 =>
             (gd (x7.2.2.2.1.length + [e9].length)).bind fun _ =>
             some (.inl (x7.1, x7.2.1.set e9.toNat x7.2.2.1, x7.2.2.1, x7.2.2.2.1 ++ [e9], x7.2.2.2.2.1, x7.2.2.2.2.2.1, x7.2.2.2.2.2.2.1, x7.2.2.2.2.2.2.2.1, x7.2.2.2.2.2.2.2.2.1, w64 (x7.2.2.2.2.2.2.2.2.2 + 1)))
            else
             some (.inl (x7.1, x7.2.1, x7.2.2.1, x7.2.2.2.1, x7.2.2.2.2.1, x7.2.2.2.2.2.1, x7.2.2.2.2.2.2.1, x7.2.2.2.2.2.2.2.1, x7.2.2.2.2.2.2.2.2.1, w64 (x7.2.2.2.2.2.2.2.2.2 + 1)))
           else
            some (.inr (.inl (x7.1, x7.2.1, x7.2.2.1, x7.2.2.2.1, x7.2.2.2.2.1, x7.2.2.2.2.2.1, w64 (x7.2.2.2.2.2.2.1 + 1))))
          ) (x3.1, x3.2.1, x3.2.2.1, x3.2.2.2.1, x3.2.2.2.2.1, x3.2.2.2.2.2.1, x3.2.2.2.2.2.2, r6, (r6.length : Int), 0)
         else
          some (.inr (.inl (x3.1, x3.2.1, x3.2.2.2.1, w64 (x3.2.2.1 + 1))))
        ) (x2.1, x2.2.1, x2.2.2.2, [], x2.2.2.1, (x2.2.2.1.length : Int), 0)
       else
        some (.inr (x2.2.1))
   ) (ps, s, [i], 1) = some out /\ Far ps.length 1000 out by
  obtain ⟨out, e, ho⟩ := hloop
  refine ⟨out, ?_, ho⟩
  rw [e]; rfl
 refine loop_m (fun m (x : (List GPart) × (List Int) × (List Int) × Int) => ∃ (out last : List Int) (t : Nat), x = (ps, out, last, (t : Int)) /\ Far ps.length 500 out /\ (∀ k, k ∈ last -> 0 <= k /\ k < (ps.length : Int)) /\ 1 <= t /\ last.length <= 1000 /\ openN out + last.length <= m /\ t + m <= 20)
  (fun out => Far ps.length 1000 out) (fun m x hI2 => ?_) (openN s + 1) (ps, s, [i], 1) ⟨s, [i], 1, rfl, ⟨hI.1, fun x hx => by have := hI.2 x hx; omega⟩, fun k hk => by rw [List.mem_singleton.1 hk]; exact ⟨hi, hi2⟩, Nat.le_refl _, by simp, Nat.le_refl _, by have := openN_le s; omega⟩
 obtain ⟨out, last, t, rfl, hF, hlast, ht, hll, hm, htm⟩ := hI2
 cases hlen : decide ((last.length : Int) > 0) with
 | false =>
  simp only [cond_false]
  exact .inr ⟨out, rfl, hF.mono (by omega)⟩
 | true =>
  have hl0 : 0 < last.length := by simpa using hlen
  simp only [cond_true]
  left
  -- all of the last ones are looked at
  have hone : ∃ r, loopD (fun (x3 : (List GPart) × (List Int) × Int × (List Int) × (List Int) × Int × Int) =>
          bif (decide (x3.2.2.2.2.2.2 < x3.2.2.2.2.2.1)) then
           (idx x3.2.2.2.2.1 x3.2.2.2.2.2.2).bind fun _ =>
           (x3.2.2.2.2.1[x3.2.2.2.2.2.2.toNat]?).bind fun e5 =>
           (iUsers x3.1 e5).bind fun r6 =>
           loopD (fun (x7 : (List GPart) × (List Int) × Int × (List Int) × (List Int) × Int × Int × (List Int) × Int × Int) =>
            bif (decide (x7.2.2.2.2.2.2.2.2.2 < x7.2.2.2.2.2.2.2.2.1)) then
             (idx x7.2.2.2.2.2.2.2.1 x7.2.2.2.2.2.2.2.2.2).bind fun _ =>
             (x7.2.2.2.2.2.2.2.1[x7.2.2.2.2.2.2.2.2.2.toNat]?).bind fun e9 =>
             (idx x7.2.1 e9).bind fun _ =>
             (x7.2.1[e9.toNat]?).bind fun e11 =>
             bif (decide (e11 < 0)) then
              (idx x7.2.1 e9).bind fun _ =>
              (x7.2.1[e9.toNat]?).bind fun e13 =>
              (gd (x7.2.2.2.1.length + [e9].length)).bind fun _ =>
              some (.inl (x7.1, x7.2.1.set e9.toNat x7.2.2.1, x7.2.2.1, x7.2.2.2.1 ++ [e9], x7.2.2.2.2.1, x7.2.2.2.2.2.1, x7.2.2.2.2.2.2.1, x7.2.2.2.2.2.2.2.1, x7.2.2.2.2.2.2.2.2.1, w64 (x7.2.2.2.2.2.2.2.2.2 + 1)))
             else
              some (.inl (x7.1, x7.2.1, x7.2.2.1, x7.2.2.2.1, x7.2.2.2.2.1, x7.2.2.2.2.2.1, x7.2.2.2.2.2.2.1, x7.2.2.2.2.2.2.2.1, x7.2.2.2.2.2.2.2.2.1, w64 (x7.2.2.2.2.2.2.2.2.2 + 1)))
            else
             some (.inr (.inl (x7.1, x7.2.1, x7.2.2.1, x7.2.2.2.1, x7.2.2.2.2.1, x7.2.2.2.2.2.1, w64 (x7.2.2.2.2.2.2.1 + 1))))
           ) (x3.1, x3.2.1, x3.2.2.1, x3.2.2.2.1, x3.2.2.2.2.1, x3.2.2.2.2.2.1, x3.2.2.2.2.2.2, r6, (r6.length : Int), 0)
          else
           some (.inr ((.inl (x3.1, x3.2.1, x3.2.2.2.1, w64 (x3.2.2.1 + 1))) : ((List GPart) × (List Int) × (List Int) × Int) ⊕ (List Int)))
       ) (ps, out, (t : Int), [], last, (last.length : Int), 0) = some r /\ ∃ out' next, r = .inl (ps, out', next, ((t + 1 : Nat) : Int)) /\ Far ps.length 500 out' /\ (∀ k, k ∈ next -> 0 <= k /\ k < (ps.length : Int)) /\ openN out' + next.length <= openN out := by
   refine list_run (fun (s : List Int × List Int) (j : Nat) => ((ps, s.1, (t : Int), s.2, last, (last.length : Int), (j : Int)) : (List GPart) × (List Int) × Int × (List Int) × (List Int) × Int × Int)) last (fun j s => Far ps.length 500 s.1 /\ (∀ k, k ∈ s.2 -> 0 <= k /\ k < (ps.length : Int)) /\ openN s.1 + s.2.length <= openN out)
    (fun (r : ((List GPart) × (List Int) × (List Int) × Int) ⊕ (List Int)) => ∃ out' next, r = .inl (ps, out', next, ((t + 1 : Nat) : Int)) /\ Far ps.length 500 out' /\ (∀ k, k ∈ next -> 0 <= k /\ k < (ps.length : Int)) /\ openN out' + next.length <= openN out) (fun j k s hx hJ => .inl ?_) (fun s hJ => ?_) (out, []) ⟨hF, fun k hk => (by cases hk), by simp⟩
   ·obtain ⟨us, eu, hul, hur⟩ := users_ok h k
    simp only [cnt_in hx, cond_true, idx_nat, hx, Int.toNat_natCast, Option.bind_some, eu]
    have htwo : ∃ r, loopD (fun (x7 : (List GPart) × (List Int) × Int × (List Int) × (List Int) × Int × Int × (List Int) × Int × Int) =>
            bif (decide (x7.2.2.2.2.2.2.2.2.2 < x7.2.2.2.2.2.2.2.2.1)) then
             (idx x7.2.2.2.2.2.2.2.1 x7.2.2.2.2.2.2.2.2.2).bind fun _ =>
             (x7.2.2.2.2.2.2.2.1[x7.2.2.2.2.2.2.2.2.2.toNat]?).bind fun e9 =>
             (idx x7.2.1 e9).bind fun _ =>
             (x7.2.1[e9.toNat]?).bind fun e11 =>
             bif (decide (e11 < 0)) then
              (idx x7.2.1 e9).bind fun _ =>
              (x7.2.1[e9.toNat]?).bind fun e13 =>
              (gd (x7.2.2.2.1.length + [e9].length)).bind fun _ =>
              some (.inl (x7.1, x7.2.1.set e9.toNat x7.2.2.1, x7.2.2.1, x7.2.2.2.1 ++ [e9], x7.2.2.2.2.1, x7.2.2.2.2.2.1, x7.2.2.2.2.2.2.1, x7.2.2.2.2.2.2.2.1, x7.2.2.2.2.2.2.2.2.1, w64 (x7.2.2.2.2.2.2.2.2.2 + 1)))
             else
              some (.inl (x7.1, x7.2.1, x7.2.2.1, x7.2.2.2.1, x7.2.2.2.2.1, x7.2.2.2.2.2.1, x7.2.2.2.2.2.2.1, x7.2.2.2.2.2.2.2.1, x7.2.2.2.2.2.2.2.2.1, w64 (x7.2.2.2.2.2.2.2.2.2 + 1)))
            else
             some (.inr ((.inl (x7.1, x7.2.1, x7.2.2.1, x7.2.2.2.1, x7.2.2.2.2.1, x7.2.2.2.2.2.1, w64 (x7.2.2.2.2.2.2.1 + 1))) : ((List GPart) × (List Int) × Int × (List Int) × (List Int) × Int × Int) ⊕ (((List GPart) × (List Int) × (List Int) × Int) ⊕ (List Int))))
         ) (ps, s.1, (t : Int), s.2, last, (last.length : Int), (j : Int), us, (us.length : Int), 0) = some r /\ ∃ s' : List Int × List Int, r = .inl (ps, s'.1, (t : Int), s'.2, last, (last.length : Int), ((j + 1 : Nat) : Int)) /\ Far ps.length 500 s'.1 /\ (∀ k, k ∈ s'.2 -> 0 <= k /\ k < (ps.length : Int)) /\ openN s'.1 + s'.2.length <= openN out := by
     refine list_run (fun (z : List Int × List Int) (q : Nat) => ((ps, z.1, (t : Int), z.2, last, (last.length : Int), (j : Int), us, (us.length : Int), (q : Int)) : (List GPart) × (List Int) × Int × (List Int) × (List Int) × Int × Int × (List Int) × Int × Int)) us (fun q z => Far ps.length 500 z.1 /\ (∀ k, k ∈ z.2 -> 0 <= k /\ k < (ps.length : Int)) /\ openN z.1 + z.2.length <= openN out)
      (fun (r : ((List GPart) × (List Int) × Int × (List Int) × (List Int) × Int × Int) ⊕ (((List GPart) × (List Int) × (List Int) × Int) ⊕ (List Int))) => ∃ s' : List Int × List Int, r = .inl (ps, s'.1, (t : Int), s'.2, last, (last.length : Int), ((j + 1 : Nat) : Int)) /\ Far ps.length 500 s'.1 /\ (∀ k, k ∈ s'.2 -> 0 <= k /\ k < (ps.length : Int)) /\ openN s'.1 + s'.2.length <= openN out) (fun q u z hu hz => .inl ?_) (fun z hz => ?_) s hJ
     ·obtain ⟨hz1, hz2, hz3⟩ := hz
      have hur' := hur u (List.mem_of_getElem? hu)
      obtain ⟨y, y1, y2, y3⟩ := idx_rng (xs := z.1) hur'.1 (by rw [hz1.len]; exact hur'.2)
      have ho1 := openN_le out
      have hol : openN out <= 8 := by rw [hF.len] at ho1; omega
      simp only [cnt_in hu, cond_true, idx_nat, hu, Int.toNat_natCast, Option.bind_some, y1, y2, gdp (show z.2.length + [u].length <= 34359738368 by simp; omega), cnt_up hu (by omega)]
      by_cases hy : y < 0
      ·rw [decide_eq_true hy]
       have := openN_set z.1 u.toNat y (t : Int) y2 hy (by omega)
       refine ⟨(z.1.set u.toNat (t : Int), z.2 ++ [u]), rfl, hz1.set _ (by omega), fun k hk => ?_, by simp; omega⟩
       rcases List.mem_append.1 hk with hk | hk
       ·exact hz2 k hk
       ·rw [List.mem_singleton.1 hk]; exact hur'
      ·rw [decide_eq_false hy]
       exact ⟨z, rfl, hz1, hz2, hz3⟩
     ·simp only [cnt_out, cond_false]
      exact ⟨_, rfl, z, by rw [cnt_up hx (by omega)], hz⟩
    obtain ⟨r, e2, s', rfl, hs'⟩ := htwo
    exact ⟨s', e2, hs'⟩
   ·simp only [cnt_out, cond_false]
    refine ⟨_, rfl, s.1, s.2, ?_, hJ⟩
    rw [show w64 ((t : Int) + 1) = ((t + 1 : Nat) : Int) by rw [w64_id (by omega) (by omega)]; omega]
  obtain ⟨r, e1, out', next, rfl, g1, g2, g3⟩ := hone
  have ho1 := openN_le out
  rw [hF.len] at ho1
  exact ⟨(ps, out', next, ((t + 1 : Nat) : Int)), m - 1, by omega, ⟨out', next, t + 1, rfl, g1, g2, by omega, by omega, by omega, by omega⟩, e1⟩
theorem through_ok {ps : List GPart} (h : Ps ps) (i : Int) (hi : 0 <= i) (hi2 : i < (ps.length : Int)) : ∃ l, iCycleThrough ps i = some l /\ (l = [] ↔ cycB ps i = false) := by
 have hl := h.len
 unfold iCycleThrough
 rw [iCyc_ok h, Option.bind_some]
 cases hc : cycB ps i with
 | false => exact ⟨[], rfl, by simp⟩
 | true =>
  obtain ⟨far, e, hF⟩ := steps_ok h i hi hi2
  obtain ⟨y, y1, y2, y3⟩ := idx_rng (xs := far) hi (by rw [hF.len]; exact hi2)
  have hy := hF.le y y3
  simp only [Bool.not_true, cond_false, e, Option.bind_some, y1, y2]
  suffices hloop : ∀ g : ((List GPart) × Int × (List Int) × (List Int) × Int) -> Option (((List GPart) × Int × (List Int) × (List Int) × Int) ⊕ (List Int)), (∀ (t : Int) (out : List Int), t <= 1000 -> out ≠ [] -> out.length <= 3000 -> g (ps, i, far, out, t) = some (.inr out) \/ (1 < t /\ ∃ out', g (ps, i, far, out, t) = some (.inl (ps, i, far, out', t - 1)) /\ out' ≠ [] /\ out'.length <= out.length + 1)) -> ∃ l, loopD g (ps, i, far, [i], y) = some l /\ (l = [] ↔ true = false) by
   refine hloop _ fun t out ht hne hol => ?_
   by_cases h1 : t > 1
   ·rw [decide_eq_true h1, cond_true]
    have hw : w64 ((out.length : Int) - 1) = ((out.length - 1 : Nat) : Int) := by
     have : 0 < out.length := by cases out with | nil => exact absurd rfl hne | cons => simp
     rw [w64_id (by omega) (by omega)]; omega
    have hlast : ∃ z, out[out.length - 1]? = some z := by
     have : 0 < out.length := by cases out with | nil => exact absurd rfl hne | cons => simp
     exact ⟨_, List.getElem?_eq_getElem (by omega)⟩
    obtain ⟨z, hz⟩ := hlast
    have hw2 : w64 (t - 1) = t - 1 := w64_id (by omega) (by omega)
    simp only [hw, idx_nat, hz, Int.toNat_natCast, Option.bind_some, iDirect_ok ps (by omega) h.ok, hw2]
    right
    refine ⟨h1, ?_⟩
    have hdl := dir_len ps z
    have hin : ∃ r, loopD (fun (x9 : (List GPart) × Int × (List Int) × (List Int) × Int × (List Int) × Int × Int) =>
    bif (decide (x9.2.2.2.2.2.2.2 < x9.2.2.2.2.2.2.1)) then
     (idx x9.2.2.2.2.2.1 x9.2.2.2.2.2.2.2).bind fun _ =>
     (x9.2.2.2.2.2.1[x9.2.2.2.2.2.2.2.toNat]?).bind fun e11 =>
     bif (e11 != x9.2.1) then
      (idx x9.2.2.1 e11).bind fun _ =>
      (x9.2.2.1[e11.toNat]?).bind fun e13 =>
      bif (e13 == (w64 (x9.2.2.2.2.1 - 1))) then
       (gd (x9.2.2.2.1.length + [e11].length)).bind fun _ =>
       some (.inr (.inl (x9.1, x9.2.1, x9.2.2.1, x9.2.2.2.1 ++ [e11], w64 (x9.2.2.2.2.1 - 1))))
      else
       some (.inl (x9.1, x9.2.1, x9.2.2.1, x9.2.2.2.1, x9.2.2.2.2.1, x9.2.2.2.2.2.1, x9.2.2.2.2.2.2.1, w64 (x9.2.2.2.2.2.2.2 + 1)))
     else
      some (.inl (x9.1, x9.2.1, x9.2.2.1, x9.2.2.2.1, x9.2.2.2.2.1, x9.2.2.2.2.2.1, x9.2.2.2.2.2.2.1, w64 (x9.2.2.2.2.2.2.2 + 1)))
    else
     some (.inr ((.inl (x9.1, x9.2.1, x9.2.2.1, x9.2.2.2.1, w64 (x9.2.2.2.2.1 - 1))) : ((List GPart) × Int × (List Int) × (List Int) × Int) ⊕ (List Int)))) (ps, i, far, out, t, dirL ps z, ((dirL ps z).length : Int), 0) = some r /\ ∃ out', r = .inl (ps, i, far, out', t - 1) /\ out' ≠ [] /\ out'.length <= out.length + 1 := by
     refine list_run (fun (_ : Unit) (q : Nat) => ((ps, i, far, out, t, dirL ps z, ((dirL ps z).length : Int), (q : Int)) : (List GPart) × Int × (List Int) × (List Int) × Int × (List Int) × Int × Int)) (dirL ps z) (fun _ _ => True) (fun (r : ((List GPart) × Int × (List Int) × (List Int) × Int) ⊕ (List Int)) => ∃ out', r = .inl (ps, i, far, out', t - 1) /\ out' ≠ [] /\ out'.length <= out.length + 1) (fun q u _ hu _ => ?_) (fun _ _ => ?_) () trivial
     ·have hur := (gok ps).rng z u (List.mem_of_getElem? hu)
      obtain ⟨v, v1, v2, v3⟩ := idx_rng (xs := far) hur.1 (by rw [hF.len]; exact hur.2)
      simp only [cnt_in hu, cond_true, idx_nat, hu, Int.toNat_natCast, Option.bind_some, v1, v2, gdp (show out.length + [u].length <= 34359738368 by simp; omega), cnt_up hu (by omega), hw2]
      cases (u != i) with
      | false => exact .inl ⟨(), rfl, trivial⟩
      | true =>
       simp only [cond_true]
       cases (v == t - 1) with
       | false => exact .inl ⟨(), rfl, trivial⟩
       | true => exact .inr ⟨_, rfl, out ++ [u], rfl, by simp, by simp⟩
     ·simp only [cnt_out, cond_false, hw2]
      exact ⟨_, rfl, out, rfl, hne, by omega⟩
    obtain ⟨r, e1, out', rfl, g1, g2⟩ := hin
    exact ⟨out', e1, g1, g2⟩
   ·rw [decide_eq_false h1, cond_false]
    exact .inl rfl
  intro g hg
  obtain ⟨l, e2, hl2⟩ := loop_m (g := g) (fun m (x : (List GPart) × Int × (List Int) × (List Int) × Int) => ∃ (t : Int) (out : List Int), x = (ps, i, far, out, t) /\ t <= 1000 /\ out ≠ [] /\ out.length + m <= 2500 /\ t.toNat <= m) (fun l : List Int => l ≠ []) (fun m x hI => by
   obtain ⟨t, out, rfl, h1, h2, h3, h4⟩ := hI
   rcases hg t out h1 h2 (by omega) with e | ⟨ht, out', e, g1, g2⟩
   ·exact .inr ⟨out, e, h2⟩
   ·exact .inl ⟨_, m - 1, by omega, ⟨t - 1, out', rfl, by omega, g1, by omega, by omega⟩, e⟩) 1001 (ps, i, far, [i], y) ⟨y, [i], rfl, hy, by simp, by simp, by omega⟩
  exact ⟨l, e2, ⟨fun hh => absurd hh hl2, fun hh => by cases hh⟩⟩
theorem cycleF_ok {ps : List GPart} {C : Int -> Option (List Int)} : ∀ (n k : Nat) (best : List Int), (∀ j : Nat, k <= j -> j < k + n -> ∃ l, C (j : Int) = some l /\ (l = [] ↔ cycB ps (j : Int) = false)) ->
  ∃ l, cycleF C n (k : Int) best = some l /\ (l = [] ↔ best = [] /\ ∀ j : Nat, k <= j -> j < k + n -> cycB ps (j : Int) = false)
 | 0, k, best, _ => ⟨best, rfl, by
   constructor
   ·exact fun h => ⟨h, fun j h1 h2 => by omega⟩
   ·exact fun h => h.1⟩
 | n + 1, k, best, h => by
  obtain ⟨c, e, hc⟩ := h k (Nat.le_refl _) (by omega)
  obtain ⟨l, e2, hl⟩ := cycleF_ok (ps := ps) (C := C) n (k + 1) (if 0 < c.length /\ (best = [] \/ c.length < best.length) then c else best) (fun j h1 h2 => h j (by omega) (by omega))
  refine ⟨l, ?_, ?_⟩
  ·unfold cycleF
   rw [e, Option.bind_some]
   have : (k : Int) + 1 = ((k + 1 : Nat) : Int) := by omega
   rw [this]; exact e2
  ·rw [hl]
   constructor
   ·rintro ⟨h1, h2⟩
    have hcb : c = [] /\ best = [] := by
     split at h1
     ·rename_i hh
      rw [h1] at hh; simp at hh
     ·rename_i hh
      refine ⟨?_, h1⟩
      cases c with
      | nil => rfl
      | cons a r => exact absurd ⟨by simp, .inl h1⟩ hh
    refine ⟨hcb.2, fun j g1 g2 => ?_⟩
    by_cases hj : j = k
    ·subst hj; exact hc.1 hcb.1
    ·exact h2 j (by omega) (by omega)
   ·rintro ⟨rfl, h2⟩
    have hc0 : c = [] := hc.2 (h2 k (Nat.le_refl _) (by omega))
    subst hc0
    refine ⟨by simp, fun j g1 g2 => h2 j (by omega) (by omega)⟩
theorem smallest_ok {ps : List GPart} (h : Ps ps) : ∃ l, iSmallestCycle ps = some l /\ (l = [] ↔ ∀ j : Nat, j < ps.length -> cycB ps (j : Int) = false) := by
 obtain ⟨l, e, hl⟩ := cycleF_ok (ps := ps) (C := iCycleThrough ps) ps.length 0 [] (fun j h1 h2 => through_ok h (j : Int) (by omega) (by omega))
 refine ⟨l, by unfold iSmallestCycle; rw [gdp (by have := h.len; omega), Option.bind_some]; exact e, ?_⟩
 rw [hl]
 constructor
 ·exact fun hh j hj => hh.2 j (by omega) (by omega)
 ·exact fun hh => ⟨rfl, fun j _ h2 => hh j (by omega)⟩
end Go.Proofs.YtgfjbogcidlaeaaGreatDoor
/- Plain law: IsExportable alike on both sides. -/
set_option linter.unusedSimpArgs false
set_option linter.unusedVariables false
namespace Go.Proofs.YtgfjbogcidlaeaaGreatDoor
open Go.Abs Go.Proofs
theorem dup_ok {ps : List GPart} (h : Ps ps) : ∃ l, iDuplicateNames ps = some l /\ sDuplicateNames ps = some l := by
 have hl := h.len
 have key : ∃ l, iNamesWith ps true = some l /\ sL22Names ps true = some l /\ True := by
  unfold iNamesWith sL22Names
  refine two_run (fun (s : List Str) (j : Nat) => ((ps, true, s, ps, (ps.length : Int), (j : Int)) : (List GPart) × Bool × (List Str) × (List GPart) × Int × Int)) (fun (s : List Str) (j : Nat) => ((ps, true, s, (j : Int)) : (List GPart) × Bool × (List Str) × Int)) ps (fun j s => s.length <= j) (fun _ => True) (fun j p s hx hI => .inl ?_) (fun s hI => ?_) [] (Nat.le_refl _)
  ·have hj := (List.getElem?_eq_some_iff.1 hx).1
   simp only [cnt_in hx, cond_true, idx_nat, hx, Option.bind_some, iDef_ok ps p.name (by omega), sDef_ok ps p.name (by omega), cnt_up hx (by omega), gdp (show s.length + ([p.name] : List Str).length <= 34359738368 by simp; omega)]
   cases (p.kind != 1) with
   | false => exact ⟨s, rfl, rfl, by omega⟩
   | true =>
    simp only [cond_true]
    cases (decide (((defsOf p.name 0 ps).length : Int) > 1) == true) with
    | false => exact ⟨s, rfl, rfl, by omega⟩
    | true => exact ⟨_, rfl, rfl, by simp; omega⟩
  ·obtain ⟨ys, e1, e2, _⟩ := sortNames_alike s (by omega)
   simp only [cnt_out, cond_false, e1, e2, Option.bind_some]
   exact ⟨ys, rfl, rfl, trivial⟩
 obtain ⟨l, e1, e2, _⟩ := key
 exact ⟨l, by unfold iDuplicateNames; rw [e1]; rfl, by unfold sDuplicateNames; rw [e2]; rfl⟩
theorem broken_ok {cs : List GCell} {ps : List GPart} (h : Ps ps) (e : iCompileAll ⟨cs⟩ = some ps) (hl : ps.length = cs.length) : ∃ l, iBrokenCells ⟨cs⟩ = some l /\ (l = [] ↔ ∀ p, p ∈ ps -> (p.kind == 4) = false) := by
 have hl8 := h.len
 unfold iBrokenCells
 rw [e, Option.bind_some]
 refine list_run (fun (s : List Int) (j : Nat) => ((cs, s, ps, (ps.length : Int), (j : Int)) : (List GCell) × (List Int) × (List GPart) × Int × Int)) ps (fun j s => s.length <= j /\ (s = [] ↔ ∀ p, p ∈ ps.take j -> (p.kind == 4) = false)) (fun l => l = [] ↔ ∀ p, p ∈ ps -> (p.kind == 4) = false) (fun j p s hx hI => .inl ?_) (fun s hI => ?_) [] ⟨Nat.le_refl _, by simp⟩
 ·have hj := (List.getElem?_eq_some_iff.1 hx).1
  obtain ⟨c, hc⟩ : ∃ c, cs[j]? = some c := ⟨_, List.getElem?_eq_getElem (by omega)⟩
  simp only [cnt_in hx, cond_true, idx_nat, hx, hc, Int.toNat_natCast, Option.bind_some, cnt_up hx (by omega), gdp (show s.length + [c.id].length <= 34359738368 by simp; omega)]
  have htk : ∀ q, q ∈ ps.take (j + 1) ↔ q ∈ ps.take j \/ q = p := fun q => by
   rw [List.take_add_one, hx, List.mem_append]; simp
  cases hk : (p.kind == 4) with
  | true =>
   refine ⟨_, rfl, by simp; omega, ⟨fun hh => by simp at hh, fun hh => ?_⟩⟩
   have := hh p ((htk p).2 (.inr rfl))
   rw [hk] at this; cases this
  | false =>
   refine ⟨s, rfl, by omega, ⟨fun hh q hq => ?_, fun hh => hI.2.2 fun q hq => hh q ((htk q).2 (.inl hq))⟩⟩
   rcases (htk q).1 hq with hq | rfl
   ·exact hI.2.1 hh q hq
   ·exact hk
 ·simp only [cnt_out, cond_false]
  rw [List.take_length] at hI
  exact ⟨s, rfl, hI.2⟩
theorem len_zero {α : Type} (l : List α) : ((l.length : Int) == 0) = decide (l = []) := by
 cases l with
 | nil => rfl
 | cons a r => simp; omega
theorem export_alike (cs : List GCell) (hl : cs.length <= 1048576) (h : ∀ c, c ∈ cs -> CellL c) : ∃ v, iIsExportable ⟨cs⟩ = some v /\ sIsExportable ⟨cs⟩ = some v := by
 obtain ⟨ps, c1, c2, c3, c4, c5⟩ := compile_alike cs hl h
 have hP : Ps ps := ⟨c5, c3⟩
 obtain ⟨dup, d1, d2⟩ := dup_ok hP
 obtain ⟨sm, s1, s2⟩ := smallest_ok hP
 have hb1 := iBook_ok cs hl h
 have hb2 := sBook_ok cs hl h
 -- what the reference gives
 have hs : sIsExportable ⟨cs⟩ = some (ps.all (fun p => !(p.kind == 4)) && (List.range ps.length).all (fun j => !cycB ps (j : Int)) && bookV cs && decide (dup = [])) := by
  unfold sIsExportable
  rw [c2, Option.bind_some]
  refine of_ex (list_run (fun (_ : Unit) (j : Nat) => ((cs, ps, (j : Int)) : (List GCell) × (List GPart) × Int)) ps (fun j _ => (∀ p, p ∈ ps.take j -> (p.kind == 4) = false) /\ ∀ k : Nat, k < j -> cycB ps (k : Int) = false) _ (fun j p _ hx hI => ?_) (fun _ hI => ?_) () ⟨by simp, fun k hk => by omega⟩)
  ·have hj := (List.getElem?_eq_some_iff.1 hx).1
   simp only [cnt_in hx, cond_true, idx_nat, hx, Int.toNat_natCast, Option.bind_some, sCyc_ok hP, cnt_up hx (by omega)]
   cases hk : (p.kind == 4) with
   | true =>
    refine .inr ⟨false, rfl, ?_⟩
    have : ps.all (fun p => !(p.kind == 4)) = false := by
     rw [List.all_eq_false]
     exact ⟨p, List.mem_of_getElem? hx, by rw [hk]; simp⟩
    rw [this]; rfl
   | false =>
    simp only [cond_false]
    cases hc : cycB ps (j : Int) with
    | true =>
     refine .inr ⟨false, rfl, ?_⟩
     have : (List.range ps.length).all (fun j => !cycB ps (j : Int)) = false := by
      rw [List.all_eq_false]
      exact ⟨j, List.mem_range.2 hj, by rw [hc]; simp⟩
     rw [this, Bool.and_false]; rfl
    | false =>
     refine .inl ⟨(), rfl, fun q hq => ?_, fun k hk2 => ?_⟩
     ·rw [List.take_add_one, hx, List.mem_append] at hq
      rcases hq with hq | hq
      ·exact hI.1 q hq
      ·have : q = p := by simpa using hq
       rw [this]; exact hk
     ·by_cases hkj : k = j
      ·subst hkj; exact hc
      ·exact hI.2 k (by omega)
  ·rw [List.take_length] at hI
   have e1 : ps.all (fun p => !(p.kind == 4)) = true := by
    rw [List.all_eq_true]
    intro p hp
    rw [hI.1 p hp]; rfl
   have e2 : (List.range ps.length).all (fun j => !cycB ps (j : Int)) = true := by
    rw [List.all_eq_true]
    intro j hj
    rw [hI.2 j (List.mem_range.1 hj)]; rfl
   simp only [cnt_out, cond_false, hb2, d2, Option.bind_some, e1, e2, Bool.true_and, len_zero]
   cases bookV cs with
   | true => exact ⟨_, rfl, rfl⟩
   | false => exact ⟨_, rfl, rfl⟩
 refine ⟨_, ?_, hs⟩
 unfold iIsExportable
 rw [c1, Option.bind_some, hb1, Option.bind_some]
 cases hv : bookV cs with
 | false => simp
 | true =>
  obtain ⟨br, b1, b2⟩ := broken_ok hP c1 (c4 hv)
  simp only [cond_true, d1, Option.bind_some, len_zero, b1, s1]
  have e1 : ps.all (fun p => !(p.kind == 4)) = decide (br = []) := by
   by_cases hb : br = []
   ·rw [decide_eq_true hb, List.all_eq_true]
    intro p hp
    rw [b2.1 hb p hp]; rfl
   ·rw [decide_eq_false hb]
    cases ha : ps.all (fun p => !(p.kind == 4)) with
    | false => rfl
    | true =>
     rw [List.all_eq_true] at ha
     exact absurd (b2.2 fun p hp => by simpa using ha p hp) hb
  have e2 : (List.range ps.length).all (fun j => !cycB ps (j : Int)) = decide (sm = []) := by
   by_cases hb : sm = []
   ·rw [decide_eq_true hb, List.all_eq_true]
    intro j hj
    rw [s2.1 hb j (List.mem_range.1 hj)]; rfl
   ·rw [decide_eq_false hb]
    cases ha : (List.range ps.length).all (fun j => !cycB ps (j : Int)) with
    | false => rfl
    | true =>
     rw [List.all_eq_true] at ha
     exact absurd (s2.2 fun j hj => by simpa using ha j (List.mem_range.2 hj)) hb
  rw [e1, e2]
  cases decide (dup = []) <;> cases decide (br = []) <;> cases decide (sm = []) <;> rfl
end Go.Proofs.YtgfjbogcidlaeaaGreatDoor
/- Plain law: FnExactIsExportable. -/
set_option linter.unusedSimpArgs false
set_option linter.unusedVariables false
namespace Go.Proofs.YtgfjbogcidlaeaaGreatDoor
open Go.Abs Go.Proofs
theorem law_FnExactIsExportable (a : GNotebook) (ha : Fit B47 (.base .notebook) a) : FnExactIsExportable a = some true := by
 unfold FnExactIsExportable
 refine law1 (szNotebook_ok a ha) _ (by omega) (by omega) fun pa r1 h0 h3 => ?_
 obtain ⟨cs⟩ := a
 obtain ⟨hC, hl⟩ := cells_fit pa
 obtain ⟨v, e1, e2⟩ := export_alike cs hl (cellL_of hC)
 simp only [toNotebook_ok _ pa, e1, e2, eqNotebook_ok _ pa, Option.bind_some, beq_self_eq_true, Bool.not_true, cond_false]
end Go.Proofs.YtgfjbogcidlaeaaGreatDoor
