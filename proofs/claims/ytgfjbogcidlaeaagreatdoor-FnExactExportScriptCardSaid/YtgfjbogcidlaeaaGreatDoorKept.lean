import Derived.Test.YtgfjbogcidlaeaaGreatDoorS4
/- A region whose order is open: the evaluator's account of it, and that it writes its own slots only. -/
set_option linter.unusedVariables false
namespace Go.Abs
open Go.RowKit
def Kept (ds : List Nat) (a0 a : Act) : Prop := a.tmps.size = a0.tmps.size /\ ∀ i, i ∉ ds -> a.tmps[i]? = a0.tmps[i]?
theorem Kept.put {ds : List Nat} {a0 a : Act} (h : Kept ds a0 a) {dst : Option Nat} (hd : ∀ d, dst = some d -> d ∈ ds) (v : Value) : Kept ds a0 (a.put dst v) := by
 cases dst with
 | none => exact h
 | some d =>
  refine ⟨by simp [Act.put, h.1], fun i hi => ?_⟩
  have hne : d ≠ i := fun e => hi (e ▸ hd d rfl)
  show (a.tmps.setIfInBounds d v)[i]? = _
  rw [Array.getElem?_setIfInBounds, if_neg hne]
  exact h.2 i hi
def ZG (ds : List Nat) (a0 : Act) (Q : Exit -> Act -> World -> Prop) : Exit -> Act -> World -> Prop := fun e a w => Q e a w /\ (e = .normal -> Kept ds a0 a)
theorem uy {Q : Exit -> Act -> World -> Prop} {ds : List Nat} {a0 : Act} (h : LetsOut Q) : LetsOut (ZG ds a0 Q) := by
 obtain ⟨a, w, h⟩ := h
 exact ⟨a, w, h, fun e => (by cases e)⟩
theorem abm {P : Program} {o : Oper} {a : Act} {w : World} {K K' : Act -> World -> Prop} {Q : Exit -> Act -> World -> Prop} {ds : List Nat} {a0 : Act} (hd : ∀ d, o.dst = some d -> d ∈ ds) (h : Kept ds a0 a)
  (hK : ∀ a w, K a w -> Kept ds a0 a -> K' a w) (hh : o.wp P a w K Q) : o.wp P a w K' (ZG ds a0 Q) := by
 have hne : ∀ ch, Exit.panic ch = .normal -> Kept ds a0 a := fun _ e => (by cases e)
 have hdf : ∀ d, Kept ds a0 ({ a with defers := d :: a.defers }.put o.dst undef) := fun d => Kept.put (a := { a with defers := d :: a.defers }) h hd _
 unfold Oper.wp at *
 generalize (execOp a.eval o).run P w = r at *
 cases r with
 | ok n w' =>
  cases n <;> simp only [Oper.upon] at hh ⊢ <;>
   first
    | exact hK _ _ hh (h.put hd _)
    | exact hK _ _ hh (hdf _)
    | exact Calls.mono hh (fun e w'' he => by cases e <;> first | exact hK _ _ he (h.put hd _) | exact ⟨he, hne _⟩ | exact uy he)
    | exact Rows.mono hh (fun _ _ he => hK _ _ he (h.put hd _))
 | halt x w' => cases x <;> simp only [Oper.upon] at hh ⊢ <;> first | exact ⟨hh, hne _⟩ | exact uy hh | exact hh
theorem sV {P : Program} {md : Region.Mode} {ops : Array Oper} {Q : Exit -> Act -> World -> Prop} {ds : List Nat} {a0 : Act} (hd : ∀ (i : Nat) (o : Oper) d, ops[i]? = some o -> o.dst = some d -> d ∈ ds) :
  ∀ (fuel : Nat) (listed : Array Bool) (a : Act) (w : World), Kept ds a0 a -> wpAny P md ops Q fuel listed a w -> wpAny P md ops (ZG ds a0 Q) fuel listed a w
 | 0, listed, a, w, h, hh => ⟨hh.1, hh.2, fun _ => h⟩
 | fuel + 1, listed, a, w, h, hh => by
  refine ⟨fun e => ⟨hh.1 e, fun _ => h⟩, fun i hi => ?_⟩
  have := hh.2 i hi
  unfold wpOp at this ⊢
  cases ho : ops[i]? with
  | none => rw [ho] at this; exact sV hd fuel _ a w h this
  | some o =>
   rw [ho] at this
   simp only at this ⊢
   split
   ·rename_i hw
    rw [if_pos hw] at this
    exact this.imp (abm (hd i o · ho) h fun a w hK hk => sV hd fuel _ a w hk hK) fun q => ⟨q.1, uy q.2⟩
   ·rename_i hw
    rw [if_neg hw] at this
    exact sV hd fuel _ _ w (h.put (hd i o · ho) _) this
theorem Ns {P : Program} {w0 : Bs} {E : Env} {ops : Array Oper} {Q : Exit -> Act -> World -> Prop} (hE : vO P E w0) (hm : P.follows .mixedOrders = true) {id : Nat} {ρ : Type} {k : St -> Option ρ} {r : ρ} {S : St} {a : Act} {w : World} {ds : List Nat}
  (hd0 : (ops.toList.all fun o => match o.dst with | some d => ds.contains d | none => true) = true) (hv : XD E ops id S k = some r) (h : ∃ G, Inv w0 G S a w)
  (hQ : ∀ S' a' w' G', k S' = some r -> Inv w0 G' S' a' w' -> Kept ds a a' -> Q .normal a' w') : (Code.region id ops true).wp P Q a w := by
 have hd : ∀ (i : Nat) (o : Oper) d, ops[i]? = some o -> o.dst = some d -> d ∈ ds := fun i o d ho hod => by
  have := List.all_eq_true.1 hd0 o (by rw [Array.mem_toList_iff]; exact Array.mem_of_getElem? ho)
  simp only [hod] at this
  simpa using this
 obtain ⟨G, h⟩ := h
 unfold XD at hv
 obtain ⟨g2, S2, hr2, hk2⟩ := IC hv
 simp only [List.append_nil] at hk2
 split at hk2
 case isFalse => cases hk2
 rename_i hc
 rw [zI] at hc
 obtain ⟨G2, h2⟩ := o9 (Za E id) h
 refine wp_mono (wp_region_any hm (sV (a0 := a) hd _ _ _ _ ⟨rfl, fun _ _ => rfl⟩ (S9 (Q := fun e a' w' => e = .normal /\ ∃ G', Inv w0 G' S2 a' w') hE (g := g2.reverse) (by rw [List.reverse_reverse]; exact hr2) hc h2 fun a' w' G' h' => ⟨rfl, G', h'⟩))) ?_
 rintro e a' w' ⟨⟨rfl, G', h'⟩, hk⟩
 exact hQ S2 a' w' G' hk2 h' (hk rfl)
theorem Nb (a' : Act) : ∀ (ds : List Nat) (a0 : Act), (ds.foldl (fun acc d => acc.put (some d) (a'.tmps.getD d undef)) a0).defers = a0.defers /\ (ds.foldl (fun acc d => acc.put (some d) (a'.tmps.getD d undef)) a0).tmps.size = a0.tmps.size /\
  ∀ i, i < a0.tmps.size -> (ds.foldl (fun acc d => acc.put (some d) (a'.tmps.getD d undef)) a0).tmps[i]? = if i ∈ ds then some (a'.tmps.getD i undef) else a0.tmps[i]?
 | [], a0 => ⟨rfl, rfl, fun i _ => by simp⟩
 | d :: ds, a0 => by
  obtain ⟨h1, h2, h3⟩ := Nb a' ds (a0.put (some d) (a'.tmps.getD d undef))
  have hs : (a0.put (some d) (a'.tmps.getD d undef)).tmps.size = a0.tmps.size := by simp [Act.put]
  refine ⟨h1, h2.trans hs, fun i hi => ?_⟩
  rw [List.foldl_cons, h3 i (by rw [hs]; exact hi)]
  by_cases hm : i ∈ ds
  ·rw [if_pos hm, if_pos (List.mem_cons_of_mem _ hm)]
  ·rw [if_neg hm]
   show (a0.tmps.setIfInBounds d _)[i]? = _
   rw [Array.getElem?_setIfInBounds]
   by_cases hdi : d = i
   ·subst hdi
    rw [if_pos rfl, if_pos hi, if_pos List.mem_cons_self]
   ·rw [if_neg hdi, if_neg (by simp [hm, Ne.symm hdi])]
theorem Kept.eq {ds : List Nat} {a0 a' : Act} (h : Kept ds a0 a') (hd : a'.defers = a0.defers) : a' = ds.foldl (fun acc d => acc.put (some d) (a'.tmps.getD d undef)) a0 := by
 obtain ⟨h1, h2, h3⟩ := Nb a' ds a0
 generalize hb : ds.foldl (fun acc d => acc.put (some d) (a'.tmps.getD d undef)) a0 = b at h1 h2 h3
 cases a' with
 | mk t' d' =>
  cases b with
  | mk tb db =>
   have e1 : d' = db := hd.trans h1.symm
   have e2 : t' = tb := by
    apply Array.ext_getElem?
    intro i
    by_cases hi : i < a0.tmps.size
    ·have hi' : i < t'.size := by rw [show t'.size = a0.tmps.size from h.1]; exact hi
     have h3' := h3 i hi
     simp only at h3'
     rw [h3']
     by_cases hm : i ∈ ds
     ·rw [if_pos hm, Array.getElem?_eq_getElem hi', Array.getD_eq_getD_getElem?, Array.getElem?_eq_getElem hi']; rfl
     ·rw [if_neg hm]; exact h.2 i hm
    ·rw [Array.getElem?_eq_none (by rw [show t'.size = a0.tmps.size from h.1]; omega), Array.getElem?_eq_none (by rw [show tb.size = a0.tmps.size from h2]; omega)]
   rw [e1, e2]
theorem Yj {w : World} {S0 : Nat -> Nat -> Prop} (hS : ∀ b o, S0 b o -> b < w.heap.size) {a : Act} (hd : a.defers = []) :
  ∃ G, G.S = S0 /\ Inv ⟨w, S0, fun _ => False, none⟩ G { tmps := List.replicate a.tmps.size .undef, boxes := List.replicate a.tmps.size none, owns := List.replicate a.tmps.size [] } a w := by
 let G : Gh := { bk := fun _ => 0, ov := fun _ _ => undef, ow := fun _ => none, S := S0, lk := fun _ => False, lb := fun _ => False }
 have hgB : ∀ i, ({ tmps := List.replicate a.tmps.size .undef, boxes := List.replicate a.tmps.size none, owns := List.replicate a.tmps.size [] } : St).dP i = none := by
  intro i
  show (List.replicate _ (none : Option (List C))).getD i none = none
  rw [zE, List.getElem?_replicate]
  split <;> rfl
 have hgO : ∀ i, ({ tmps := List.replicate a.tmps.size .undef, boxes := List.replicate a.tmps.size none, owns := List.replicate a.tmps.size [] } : St).aC i = [] := by
  intro i
  show (List.replicate _ ([] : List O)).getD i [] = []
  rw [zE, List.getElem?_replicate]
  split <;> rfl
 refine ⟨G, rfl, ⟨lS.refl _ _ _, hd, ?_, ?_, ?_, ?_, (fun b x hx => (by cases hx)), (fun b o hs => ⟨hS b o hs, fun i hi => (by cases hi)⟩), ?_, ?_, (fun k hk => hk.elim), (fun i hi => hi.elim), (fun b o hs _ => hs), (fun b hb => by cases hb)⟩⟩
 ·simp
 ·simp
 ·simp
 ·intro i v hv
  show iE G w ((List.replicate _ AV.undef).getD i .undef) v
  rw [zE, List.getElem?_replicate]
  split <;> trivial
 ·intro i cs hcs
  rw [hgB] at hcs; cases hcs
 ·intro k j
  rw [hgO]; trivial
def Oe (i : Nat) (S : St) : Option (List Str) := match S.gq i with
 | .v (.one (.own k j)) => match aU (S.aC k) j with
  | .own (.base .str) xs _ _ => some xs
  | _ => none
 | _ => none
theorem GH {w : World} {S0 : Nat -> Nat -> Prop} {G : Gh} {S : St} {a : Act} {w' : World} {i : Nat} {xs : List Str} (h : Inv ⟨w, S0, fun _ => False, none⟩ G S a w') (hx : Oe i S = some xs) (hi : i < a.tmps.size) :
  Below w.heap.size w w' /\ ∃ S' : Nat -> Nat -> Prop, Rep w' S' (.list (.base .str) xs) (a.tmps.getD i undef) /\ ∀ b o, S' b o -> (S0 b o \/ w.heap.size <= b) /\ b < w'.heap.size := by
 unfold Oe at hx
 split at hx
 case h_2 => cases hx
 rename_i k j ht
 split at hx
 case h_2 => cases hx
 rename_i xs' deep m hown
 cases hx
 have hr := h.tmps i (a.tmps.getD i undef) (by rw [Array.getD_eq_getD_getElem?, Array.getElem?_eq_getElem hi]; rfl)
 rw [ht] at hr
 refine ⟨h.below.FU fun _ => id, fun b o => G.S b o \/ AK G S [(k, j)] b o, ?_, ?_⟩
 ·have := h.BA hown [(k, j)] (by simp)
  rw [<- hr.2.1] at this
  exact this
 ·rintro b o (hs | ⟨k', j', t, xs2, deep2, m2, hm, hown2, how, _⟩)
  ·refine ⟨?_, (h.sok b o hs).1⟩
   rcases Nat.lt_or_ge b w.heap.size with hlt | hge
   ·exact .inl (h.sfr b o hs hlt)
   ·exact .inr hge
  ·have := h.kz how
   exact ⟨.inr this.1, this.2⟩
end Go.Abs
