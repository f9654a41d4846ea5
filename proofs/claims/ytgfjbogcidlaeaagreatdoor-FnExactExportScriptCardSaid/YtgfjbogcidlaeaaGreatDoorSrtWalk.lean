import Derived.Test.YtgfjbogcidlaeaaGreatDoorWalkV
import Derived.ArgAppend
import Derived.Maps.AppendAt
import Derived.Deep.DeepAppendRoom
/- The closures that the walk over the names of an expression is handed. -/
set_option linter.unusedSimpArgs false
set_option linter.unusedVariables false
namespace Go.Proofs.YtgfjbogcidlaeaaGreatDoor
open Go.Abs Go.Proofs Go.RowKit
theorem abA : (Tryz.prog.info? 9).map (fun i => (i.zero, i.size, i.bytes)) = some (some (.string ⟨#[]⟩), 1, 16) := by kernel_rfl
def fK (σ : List Ev) : List Value := σ.map fun p => .string ⟨p.1.toArray⟩
structure aaK (B ob : Nat) (σ : List Ev) (w : World) (v : Value) : Prop where
 cell : ∃ T, w.heap[ob]? = some (.cells #[v] T (0, 0))
 own : w.ownsRow B 9 1 v σ.length (fK σ)
 ne : v ≠ .slice none 0 0
 no : v.ownBlock ≠ some ob
def J9 (B ob : Nat) (σ : List Ev) (w : World) : Prop := (oD <= ob /\ oD <= B) /\ ∃ v, aaK B ob σ w v
def F8 (ob : Nat) (w : World) (c : Nat) : Prop := c = ob \/ ∃ v T, w.heap[ob]? = some (.cells #[v] T (0, 0)) /\ v.ownBlock = some c
theorem iT {ob : Nat} {w : World} {v : Value} {T : TypeId} (h : w.heap[ob]? = some (.cells #[v] T (0, 0))) (c : Nat) : F8 ob w c ↔ c = ob \/ v.ownBlock = some c := by
 constructor
 ·rintro (h1 | ⟨v', T', h1, h2⟩)
  ·exact .inl h1
  ·rw [h] at h1
   simp only [zD, Obj.cells.injEq, Array.mk.injEq, List.cons.injEq, and_true] at h1
   exact .inr (h1.1 ▸ h2)
 ·rintro (h1 | h1)
  ·exact .inl h1
  ·exact .inr ⟨v, T, h, h1⟩
set_option maxHeartbeats 4000000 in
set_option maxRecDepth 100000 in
theorem aac (B ob : Nat) : Clo 197 #[.pointer (some ⟨ob, 0, none⟩)] (J9 B ob) (F8 ob) where
 enters := enters_of Tryz.func197 (by kernel_rfl) rfl
 keep := fun w w' σ h hk hs => by
  obtain ⟨ha, v, ⟨T, hc⟩, ho, hne, hno⟩ := h
  have hc' := (hk ob (.inl rfl)).trans hc
  refine ⟨⟨ha, v, ⟨T, hc'⟩, ⟨ho.1, ?_⟩, hne, hno⟩, fun c hh => (iT hc c).2 ((iT hc' c).1 hh)⟩
  rcases ho.2 with h1 | ⟨g, cap, cur, hv, hg, hh, r⟩
  ·exact .inl h1
  ·exact .inr ⟨g, cap, cur, hv, hg, (hk g ((iT hc g).2 (.inr (by rw [hv]; rfl)))).trans hh, r⟩
 lt := fun w σ c h hc => by
  obtain ⟨ha, v, ⟨T, hcell⟩, ho, _, _⟩ := h
  have hob := (Array.getElem?_eq_some_iff.1 hcell).1
  rcases (iT hcell c).1 hc with rfl | h1
  ·exact ⟨ha.1, hob⟩
  ·rcases ho.2 with ⟨h2, _⟩ | ⟨g, cap, cur, hv, hg, hh, r⟩
   ·rw [h2] at h1; cases h1
   ·rw [hv] at h1
    simp only [Value.ownBlock, zD] at h1
    subst h1
    exact ⟨Nat.le_trans ha.2 hg, (Array.getElem?_eq_some_iff.1 hh).1⟩
 call := fun w σ S name bound vb ha hG hl hbl hrb hS => by
  obtain ⟨han, v, ⟨T, hc⟩, hown, hvne, hvo⟩ := hG
  have hol := (Array.getElem?_eq_some_iff.1 hc).1
  have c0 := cell_of_one hc
  have f0 := free_of_one hc
  obtain ⟨i0, hi, hz, hz1, hby⟩ := info_parts abA
  have hnm : fK (σ ++ [(name, bound)]) = fK σ ++ [.string ⟨name.toArray⟩] := by simp [fK]
  have fin : ∀ (w3 : World) (v' : Value), v' ≠ .slice none 0 0 -> (∀ c, v'.ownBlock = some c -> v.ownBlock = some c \/ w.heap.size <= c) -> w3.ownsRow B 9 1 v' (σ.length + 1) (fK σ ++ [.string ⟨name.toArray⟩]) -> w3.os = w.os -> w3.tape = w.tape -> w3.output = w.output -> w.heap.size <= w3.heap.size ->
    (∀ k, k < w.heap.size -> v.ownBlock ≠ some k -> w3.heap[k]? = w.heap[k]?) -> J9 B ob (σ ++ [(name, bound)]) (w3.setCell ⟨ob, 0, none⟩ v') /\ dD (F8 ob) w (w3.setCell ⟨ob, 0, none⟩ v') := by
   intro w3 v' hvn hb ho h1 h2 h3 h4 h5
   have hvo' : v'.ownBlock ≠ some ob := by
    intro h
    rcases hb ob h with h | h
    ·exact hvo h
    ·omega
   have hc3 : w3.heap[ob]? = some (.cells #[v] T (0, 0)) := (h5 ob hol hvo).trans hc
   have hc4 : (w3.setCell ⟨ob, 0, none⟩ v').heap[ob]? = some (.cells #[v'] T (0, 0)) := by simpa using one_setCell hc3
   refine ⟨⟨han, v', ⟨⟨T, hc4⟩, ?_, hvn, hvo'⟩⟩, h1, h2, h3, ?_, fun c hcl hn => ?_, fun c hh => ?_⟩
   ·rw [hnm, List.length_append]
    exact ownsRow_setCell_other ho hvo' _
   ·simp [World.setCell]; omega
   ·rw [Below.heap_setCell _ _ _ _ (fun h => hn (.inl h))]
    exact h5 c hcl fun h => hn ((iT hc c).2 (.inr h))
   ·rcases (iT hc4 c).1 hh with h | h
    ·exact .inl (.inl h)
    ·exact (hb c h).imp (fun h => (iT hc c).2 (.inr h)) id
  show Calls _ _ #[.string ⟨name.toArray⟩, vb, .pointer (some ⟨ob, 0, none⟩)] _ _
  have HF : Hid _ := fin
  have HO := Hid (w.ownsRow B 9 1 v σ.length (fK σ))
  clear fin
  rcases hown.2 with ⟨hv, hn0⟩ | ⟨g, cap, cur, hv, hg, hh, hnc, hcm, hcs, htk⟩
  ·exact absurd hv hvne
  ·subst hv
   have hgl : g < w.heap.size := (Array.getElem?_eq_some_iff.1 hh).1
   have hgo : g ≠ ob := fun h => hvo (by rw [<- h]; rfl)
   have HW : Hid (w.ownsRow B 9 1 (.slice (some ⟨g, 0, none⟩) σ.length cap) σ.length (fK σ)) := hown
   by_cases hr : σ.length + 1 <= cap
   ·clear hrb hS hown hh hcs htk
    go_enter Tryz.func197, Tryz.ntmps197
    go_wp2_with (at_builtin; refine wpList_append_own_spare _ rfl _ _ 33 rfl B 9 i0 1 Tryz.underlying33 hi hz1 g σ.length cap (fK σ) rfl (HW.out.alloc _) ⟨w.heap.size, 0, none⟩ 1 1 [.string ⟨name.toArray⟩] rfl rfl (cell_one_new _ _ _) (fun x hx => by simp at hx; subst hx; rfl) hr ?_; intro w3 hown' hgrow
                 have ho3 : w3.heap[ob]? = some (.cells #[.slice (some ⟨g, 0, none⟩) σ.length cap] T (0, 0)) := by rw [hgrow.block ob (by simp; omega) (fun h => hgo (Option.some.inj h).symm), Below.heap_alloc _ _ _ hol]; exact hc
                 have co3 := cell_of_one ho3
                 have fo3 := free_of_one ho3
                 have X : Hid (w3.ownsRow B 9 1 (.slice (some ⟨g, 0, none⟩) (σ.length + 1) cap) (σ.length + 1) (fK σ ++ [.string ⟨name.toArray⟩]) /\ (w.alloc (.cells #[.string ⟨name.toArray⟩] 9)).grownBy w3 (some g)) := ⟨hown', hgrow⟩
                 clear hown' hgrow ho3 c0 f0)
    refine bodyPost_end (results_none rfl _ _ _) rfl ?_
    obtain ⟨q1, q2⟩ := X.out
    exact ⟨rfl, HF.out w3 _ (by simp) (fun c h => .inl h) q1 q2.os q2.tape q2.output (Nat.le_trans (by simp) q2.size) fun k hk hne => (q2.block k (by simp; omega) (fun h => hne h.symm)).trans (Below.heap_alloc w _ k hk)⟩
   ·have hcells := (HW.out.alloc (.cells #[.string ⟨name.toArray⟩] 9)).cells (g := g) rfl
    have hb1 : σ.length + 1 <= maxLen := by simp only [maxLen]; omega
    have HC : Hid (∀ j u, (fK σ)[j]? = some u -> (w.alloc (.cells #[.string ⟨name.toArray⟩] 9)).cell? ((⟨g, 0, none⟩ : Addr).add j) = some u) := hcells
    clear hrb hS hown hh hcs htk hcells
    go_enter Tryz.func197, Tryz.ntmps197
    go_wp2_with (at_builtin; refine wpList_append_grows _ rfl _ _ 33 rfl 9 i0 _ 1 16 Tryz.underlying33 hi hz hz1 hby rfl (by decide) (some ⟨g, 0, none⟩) σ.length cap (fK σ) rfl (fun h => by cases h) (by simp [fK]) (fun b h => by cases h; exact HC.out) ⟨w.heap.size, 0, none⟩ 1 1 [.string ⟨name.toArray⟩] rfl rfl (cell_one_new _ _ _) (fun x hx => by simp at hx; subst hx; rfl) (by omega) hb1 (by omega) ?_; intro v3 w3 hown' hgrow
                 have ho3 : w3.heap[ob]? = some (.cells #[.slice (some ⟨g, 0, none⟩) σ.length cap] T (0, 0)) := by rw [hgrow.block ob (by simp; omega) (fun h => by cases h), Below.heap_alloc _ _ _ hol]; exact hc
                 obtain ⟨q1, ⟨_, q0⟩ | ⟨g3, cap3, cur3, rfl, q2, q3⟩⟩ := hown'
                 ·omega
                 have co3 := cell_of_one ho3
                 have fo3 := free_of_one ho3
                 have X : Hid (w3.ownsRow B 9 1 (.slice (some ⟨g3, 0, none⟩) (σ.length + 1) cap3) (σ.length + 1) (fK σ ++ [.string ⟨name.toArray⟩]) /\ (w.alloc (.cells #[.string ⟨name.toArray⟩] 9)).grownBy w3 none /\ w.heap.size <= g3) := ⟨⟨q1, .inr ⟨g3, cap3, cur3, rfl, by simp at q2; omega, q3⟩⟩, hgrow, by simp at q2; omega⟩
                 clear q1 q2 q3 hgrow ho3 c0 f0)
    refine bodyPost_end (results_none rfl _ _ _) rfl ?_
    obtain ⟨q1, q2, q3⟩ := X.out
    exact ⟨rfl, HF.out w3 _ (by simp) (fun c h => .inr (by simp only [Value.ownBlock, zD] at h; omega)) q1 q2.os q2.tape q2.output (Nat.le_trans (by simp) q2.size) fun k hk hne => (q2.block k (by simp; omega) (fun h => by cases h)).trans (Below.heap_alloc w _ k hk)⟩
theorem aeg (w : World) (o0 o1 o2 o3 : Obj) : Below w.heap.size w ((((w.alloc o0).alloc o1).alloc o2).alloc o3) /\ ((((w.alloc o0).alloc o1).alloc o2).alloc o3).heap.size = w.heap.size + 4 /\
  ((((w.alloc o0).alloc o1).alloc o2).alloc o3).heap[w.heap.size + 1]? = some o1 /\ ((((w.alloc o0).alloc o1).alloc o2).alloc o3).heap[w.heap.size + 1 + 1]? = some o2 /\
  ((((w.alloc o0).alloc o1).alloc o2).alloc o3).heap[w.heap.size + 1 + 1 + 1]? = some o3 := by
 refine ⟨⟨rfl, rfl, rfl, ?_, fun k hk => ?_⟩, ?_, ?_, ?_, ?_⟩
 ·show _ <= ((((w.heap.push o0).push o1).push o2).push o3).size
  simp
  omega
 ·show ((((w.heap.push o0).push o1).push o2).push o3)[k]? = _
  rw [Array.getElem?_push, if_neg (by simp only [Array.size_push]; omega), Array.getElem?_push, if_neg (by simp only [Array.size_push]; omega), Array.getElem?_push, if_neg (by simp only [Array.size_push]; omega), Array.getElem?_push, if_neg (by omega)]
 ·show ((((w.heap.push o0).push o1).push o2).push o3).size = _
  simp
 ·show ((((w.heap.push o0).push o1).push o2).push o3)[w.heap.size + 1]? = _
  rw [Array.getElem?_push, if_neg (by simp only [Array.size_push]; omega), Array.getElem?_push, if_neg (by simp only [Array.size_push]; omega), Array.getElem?_push, if_pos (by simp only [Array.size_push])]
 ·show ((((w.heap.push o0).push o1).push o2).push o3)[w.heap.size + 1 + 1]? = _
  rw [Array.getElem?_push, if_neg (by simp only [Array.size_push]; omega), Array.getElem?_push, if_pos (by simp only [Array.size_push])]
 ·show ((((w.heap.push o0).push o1).push o2).push o3)[w.heap.size + 1 + 1 + 1]? = _
  rw [Array.getElem?_push, if_pos (by simp only [Array.size_push])]
theorem XI {w : World} {B ob : Nat} {σ : List Ev} {v : Value} (h : aaK B ob σ w v) : ∃ g, g < w.heap.size /\ Rep w (fun b _ => b = g) (.list (.base .str) (σ.map (·.1))) v := by
 obtain ⟨_, ⟨hlen, h1 | ⟨g, cap, cur, rfl, hg, hh, hnc, hcm, hcs, htk⟩⟩, hne, _⟩ := h
 ·exact absurd h1.1 hne
 ·refine ⟨g, (Array.getElem?_eq_some_iff.1 hh).1, ?_⟩
  have hl : (σ.map (·.1)).length = σ.length := by simp
  rw [<- hl]
  refine .list (.base .str) (σ.map (·.1)) g 0 cap (fun i _ => ((fK σ)[i]?).getD undef) (by rw [hl]; exact hnc) (fun i x j d hx hd => ?_) (fun i x j d hx hd => ?_)
  ·cases j with
   | succ j => simp [Ty.cells, Base.cells] at hd
   | zero =>
    have hi : i < σ.length := by have := (zC.1 hx).1; rwa [hl] at this
    have e : 0 + (i * (Ty.base .str).size + 0) = i := by show 0 + (i * 1 + 0) = i; omega
    rw [e]
    refine ⟨?_, rfl⟩
    have e1 : w.cell? ⟨g, i, none⟩ = cur[i]? := by simp [World.cell?, hh]
    rw [e1]
    have e2 : cur.toList[i]? = (fK σ)[i]? := by
     rw [<- htk, List.getElem?_take, if_pos (by omega)]
    rw [<- Array.getElem?_toList, e2]
    have : i < (fK σ).length := by simpa [fK] using hi
    rw [zF this]; rfl
  ·cases j with
   | succ j => simp [Ty.cells, Base.cells] at hd
   | zero =>
    simp only [Ty.cells, Base.cells, List.getElem?_cons_zero, zD] at hd
    subst hd
    have e2 : (fK σ)[i]? = some (.string ⟨x.toArray⟩) := by
     rw [List.getElem?_map] at hx
     obtain ⟨p, hp, rfl⟩ := Option.map_eq_some_iff.1 hx
     simp [fK, hp]
    simp only [e2, Option.getD_some]
    exact Rep.str ⟨List.toArray x⟩
theorem Ve (e : af) (es : List Ev) (ys : List Str) (w : World) (S : Nat -> Nat -> Prop) (va : Value) (h : jB (siz e + 1) e [] = some es) (hl : es.length <= 34359738368) (hys : kD (es.map (·.1)) = some ys) (ha : amb w) (hra : Rep w S (.list (.base .expr) e.args) va) (hS : ∀ b o, S b o -> b < w.heap.size) (o0 : Obj) (T2 T3 : TypeId) :
  Calls Tryz.prog 198 #[.pointer (some ⟨w.heap.size + 1 + 1 + 1, 0, none⟩), .agg #[.int .i64 e.kind, .int .i64 e.n, .string ⟨e.text.toArray⟩, va], .slice none 0 0]
   ((((w.alloc o0).alloc (.cells #[] 9 (0, 0))).alloc (.cells #[.slice (some ⟨w.heap.size + 1, 0, none⟩) 0 0] T2 (0, 0))).alloc (.cells #[.func (.func 197) #[] #[.pointer (some ⟨w.heap.size + 1 + 1, 0, none⟩)], .nilFunc] T3 (0, 0)))
   fun r w' => r = .returned (.tuple #[]) /\ ∃ v, w'.cell? ⟨w.heap.size + 1 + 1, 0, none⟩ = some v /\ Calls Tryz.prog 78 #[v] w' fun r2 w2 => ∃ v2, r2 = .returned v2 /\ Below w.heap.size w w2 /\ vF w.heap.size w2 S true [⟨false, .list (.base .str)⟩] ys v2 := by
 obtain ⟨hB, hsz, r1, r2, r3⟩ := aeg w o0 (.cells #[] 9 (0, 0)) (.cells #[.slice (some ⟨w.heap.size + 1, 0, none⟩) 0 0] T2 (0, 0)) (.cells #[.func (.func 197) #[] #[.pointer (some ⟨w.heap.size + 1 + 1, 0, none⟩)], .nilFunc] T3 (0, 0))
 generalize ((((w.alloc o0).alloc (.cells #[] 9 (0, 0))).alloc (.cells #[.slice (some ⟨w.heap.size + 1, 0, none⟩) 0 0] T2 (0, 0))).alloc (.cells #[.func (.func 197) #[] #[.pointer (some ⟨w.heap.size + 1 + 1, 0, none⟩)], .nilFunc] T3 (0, 0))) = W at *
 have hA := ha.size
 have hG : J9 (w.heap.size + 1) (w.heap.size + 1 + 1) [] W := ⟨⟨by omega, by omega⟩, _, ⟨_, r2⟩, ⟨rfl, .inr ⟨w.heap.size + 1, 0, #[], rfl, Nat.le_refl _, r1, Nat.le_refl _, Nat.zero_le _, rfl, rfl⟩⟩, by simp, by simp [Value.ownBlock]⟩
 have hn : ∀ b, F8 (w.heap.size + 1 + 1) W b -> w.heap.size < b /\ b < w.heap.size + 3 := by
  intro b hb
  rcases (iT r2 b).1 hb with h | h
  ·omega
  ·simp only [Value.ownBlock, zD] at h; omega
 refine ((Gn (aac (w.heap.size + 1) (w.heap.size + 1 + 1)) (siz e + 1)) e [] es [] W S va (.slice none 0 0) (w.heap.size + 1 + 1 + 1) T3 h (amb.keep ha hB.size fun k hk => hB.block k (Nat.lt_of_lt_of_le hk hA)) hG (by simpa using hl) r3 (fun hh => by have := hn _ hh; omega)
  (hra.move fun b o hs => ⟨hs, hB.cell (hS b o hs)⟩) (.nil _) (fun b o hs => ⟨by have := hS b o hs; omega, fun hh => by have := hn _ hh; have := hS b o hs; omega⟩)).mono ?_
 rintro r w' ⟨rfl, g1, g2⟩
 have hB' : Below w.heap.size w w' := hB.trans ⟨g2.os, g2.tape, g2.output, g2.size, fun k hk => g2.block k (by omega) (fun hh => by have := hn _ hh; omega)⟩
 obtain ⟨_, v, hat⟩ := g1
 obtain ⟨T, hcell⟩ := hat.cell
 obtain ⟨g, hgl, hrep⟩ := XI hat
 refine ⟨rfl, v, cell_of_one hcell, ?_⟩
 have ham : amb w' := amb.keep ha hB'.size fun k hk => hB'.block k (Nat.lt_of_lt_of_le hk hA)
 refine (rW w' (fun b _ => b = g) [v] (es.map fun p : Ev => p.1) ys hys ham ⟨hrep, trivial⟩ (fun b o hb => hb ▸ hgl)).mono ?_
 rintro r2 w2 ⟨v2, rfl, hB2, us, hu, fps, q1, q2, q3⟩
 exact ⟨v2, rfl, hB'.trans (hB2.mono hB'.size), us, hu, fps, q1, fun i c hc => ⟨Nat.le_trans hB'.size (q2 i c hc).1, (q2 i c hc).2⟩, q3⟩
set_option maxHeartbeats 4000000 in
set_option maxRecDepth 100000 in
theorem X8 (e : af) (es : List Ev) (ys : List Str) (w : World) (S : Nat -> Nat -> Prop) (vp : Option Addr) (vn vc : Nat) (h : jB (siz e + 1) e [] = some es) (hl : es.length <= 34359738368) (hys : kD (es.map (·.1)) = some ys) (ha : amb w) (hra : Rep w S (.list (.base .expr) e.args) (.slice vp vn vc)) (hS : ∀ b o, S b o -> b < w.heap.size) :
  Calls Tryz.prog 164 #[.agg #[.int .i64 e.kind, .int .i64 e.n, .string ⟨e.text.toArray⟩, .slice vp vn vc]] w fun r w' => ∃ v, r = .returned v /\ Below w.heap.size w w' /\ vF w.heap.size w' S true [⟨false, .list (.base .str)⟩] ys v := by
 have hgo := Ve e es ys w S (.slice vp vn vc) h hl hys ha hra hS
 clear h ha hra
 go_enter Tryz.func164, Tryz.ntmps164
 go_wp2_with (first
  | (go_at_call 198; refine (hgo _ _ _).mono ?_; rintro r w1 ⟨rfl, v, k0, hs⟩)
  | (go_at_call 78; refine hs.mono ?_; rintro r2 w2 ⟨v2, rfl, hP⟩; have HP : Hid _ := hP; clear hP))
 go_ret
 exact ⟨_, rfl, HP.out⟩
theorem aaf {w : World} {S : Nat -> Nat -> Prop} {e : af} {u : Value} (h : ShR (fun _ d u => Rep w S d u) 0 ⟨true, .base .expr⟩ e u) : ∃ vp vn vc, u = .agg #[.int .i64 e.kind, .int .i64 e.n, .string ⟨e.text.toArray⟩, .slice vp vn vc] /\ Rep w S (.list (.base .expr) e.args) (.slice vp vn vc) := by
 obtain ⟨vs, rfl, hc⟩ := h
 have hc : aO (fun _ d u => Rep w S d u) 0 [.int .i64 e.kind, .int .i64 e.n, .str e.text, .list (.base .expr) e.args] vs := hc
 rcases vs with _ | ⟨v0, _ | ⟨v1, _ | ⟨v2, _ | ⟨v3, _ | ⟨v4, r⟩⟩⟩⟩⟩
 ·exact hc.elim
 ·exact hc.2.elim
 ·exact hc.2.2.elim
 ·exact hc.2.2.2.elim
 ·obtain ⟨vp, vn, vc, rfl⟩ := oJ hc.2.2.2.1
  have h0 := lV hc.1
  have h1 := lV hc.2.1
  have h2 := nS hc.2.2.1
  subst h0; subst h1; subst h2
  exact ⟨vp, vn, vc, rfl, hc.2.2.2.1⟩
 ·exact hc.2.2.2.2.elim
theorem DX : Sound Tryz.prog PG := by
 intro w S args x y h ha hr hS
 rcases args with _ | ⟨u, _ | ⟨u2, r⟩⟩
 ·exact hr.elim
 ·obtain ⟨vp, vn, vc, rfl, hra⟩ := aaf (e := x) hr
  have h : lM x = some y := h
  unfold lM at h
  obtain ⟨es, h1, h⟩ := zB.1 h
  obtain ⟨_, h2, h⟩ := zB.1 h
  exact X8 x es y w S vp vn vc h1 (fM h2) h ha hra hS
 ·exact hr.elim
end Go.Proofs.YtgfjbogcidlaeaaGreatDoor
