import Derived.Test.YtgfjbogcidlaeaaGreatDoorSet0
import Derived.Test.YtgfjbogcidlaeaaGreatDoorEnvs
import Derived.Test.YtgfjbogcidlaeaaGreatDoorLib1
import Derived.Test.YtgfjbogcidlaeaaGreatDoorLayL
import Derived.Maps.OwnOps
import Derived.Maps.OwnSet
import Derived.Maps.AppendAt
import Derived.Maps.Views
/- The walk over impl.sorted: a set kept in a map of the call's own. -/
set_option linter.unusedSimpArgs false
set_option linter.unusedVariables false
namespace Go.Proofs.YtgfjbogcidlaeaaGreatDoor
open Go.Abs Go.Proofs Go.Shelf Go.RowKit Go.Lib Go.Sort Go.Maps
theorem Oh {P : Program} {ρ : Ren} (L : Lays.n191 P ρ) (w : World) (g cap : Nat) (cur : Array Value) (E : TypeId) (zs : List Int) (hb : w.heap[g]? = some (.cells cur E (0, 0))) (hc : cur.size = cap) (hl : zs.length <= cap) (hz : zs.length <= 34359738368)
  (hcs : ∀ (i : Nat) (x : Int), zs[i]? = some x -> cur[i]? = some (.int .i64 x)) :
  Calls P (ρ.f 191) #[.slice (some ⟨g, 0, none⟩) zs.length cap] w fun e w' => e = .returned (.tuple #[]) /\ w'.os = w.os /\ w'.tape = w.tape /\ w'.output = w.output /\ w.heap.size <= w'.heap.size /\ (∀ c, c < w.heap.size -> c ≠ g -> w'.heap[c]? = w.heap[c]?) /\
   ∃ cur' : Array Value, w'.heap[g]? = some (.cells cur' E (0, 0)) /\ cur'.size = cap /\ ∀ (i : Nat) (x : Int), (zs.mergeSort fun x y => decide (x <= y))[i]? = some x -> cur'[i]? = some (.int .i64 x) := by
 have hlt : g < w.heap.size := (Array.getElem?_eq_some_iff.1 hb).1
 have hH : Holds (Value.int .i64) w g 0 zs.toArray := by
  intro j hj
  have hj' : j < zs.length := by simpa using hj
  have e : w.cell? ⟨g, 0 + j, none⟩ = cur[j]? := by simp [World.cell?, hb]
  refine ⟨?_, ?_⟩
  ·rw [e, hcs j _ (zF hj')]
   rw [getElem!_pos _ j hj]
   simp
  ·unfold World.frozen?
   simp only [hb]
   simp
 refine (Any.sort_Ints L g 0 cap zs w hH hlt (by omega)).mono ?_
 rintro e w' ⟨rfl, n, os, rfl⟩
 generalize hys : (zs.mergeSort fun x y => decide (x <= y)) = ys
 have hyl : ys.length = zs.length := by rw [<- hys]; exact List.length_mergeSort _
 refine ⟨rfl, rfl, rfl, rfl, ?_, ?_, putCells (Value.int .i64) 0 ys.toArray cur, ?_, ?_, ?_⟩
 ·show _ <= ((putRow (Value.int .i64) (Sort.ahead w n) g 0 _).heap ++ os).size
  rw [Array.size_append, size_putRow]
  exact Nat.le_add_right _ _
 ·intro c hc1 hcb
  show ((putRow (Value.int .i64) (Sort.ahead w n) g 0 _).heap ++ os)[c]? = _
  rw [Array.getElem?_append_left (by rw [size_putRow]; exact hc1)]
  show (w.heap.modify g _)[c]? = _
  rw [Array.getElem?_modify, if_neg (Ne.symm hcb)]
 ·show ((putRow (Value.int .i64) (Sort.ahead w n) g 0 _).heap ++ os)[g]? = _
  rw [Array.getElem?_append_left (by rw [size_putRow]; exact hlt)]
  show (w.heap.modify g _)[g]? = _
  rw [Array.getElem?_modify, if_pos rfl, hb]; rfl
 ·unfold putCells
  rw [Array.size_mapIdx]; exact hc
 ·intro i s hs
  have hi : i < ys.length := (zC.1 hs).1
  have hia : i < cur.size := by omega
  unfold putCells
  rw [Array.getElem?_mapIdx, Array.getElem?_eq_getElem hia, Option.map_some, if_pos ⟨Nat.zero_le _, by simpa using hi⟩, Nat.sub_zero]
  rw [getElem!_pos _ i (by simpa using hi)]
  have : ys[i] = s := (zC.1 hs).2
  simp only [List.getElem_toArray, this]
theorem zS {H : Type} {P : Program} {e : TypeId} (he : P.underlying e = some .bool) {v : Value} {b : Bool} {ps : List MemPlace} (h : plainElem (H := H) P e v = some (.lit (.bool b), ps)) : v = .bool b := by
 unfold plainElem at h
 rw [he] at h
 cases v <;> simp at h
 rw [h.1]
theorem ab3 {H : Type} (x : Int) : ∀ acc : List Int, (setOf (H := H) (.lit (.bool true)) (acc.map (Lit.int .i64))).atKey (.int .i64 x) (.lit (.bool false)) = .lit (.bool (acc.contains x)) := by
 have key : ∀ r : List Int, (setOf (H := H) (.lit (.bool true)) (r.reverse.map (Lit.int .i64))).atKey (.int .i64 x) (.lit (.bool false)) = .lit (.bool (r.reverse.contains x)) := by
  intro r
  induction r with
  | nil => rfl
  | cons y r ih =>
   rw [List.reverse_cons, List.map_append, List.map_singleton, setOf_snoc]
   by_cases hxy : x = y
   ·subst hxy
    have hT : Tidy (setOf (H := H) (.lit (.bool true)) (r.reverse.map (Lit.int .i64))) := tidy_setOf _ _ fun z hz => by
     obtain ⟨y, _, rfl⟩ := List.mem_map.1 hz
     exact True.intro
    rw [atKey_put_same (k := .int .i64 x) hT.isMap True.intro]
    simp
   ·rw [atKey_put_other (by intro e; cases e; exact hxy rfl), ih]
    congr 2
    simp [hxy]
 intro acc
 have := key acc.reverse
 rwa [List.reverse_reverse] at this
theorem oP {H : Type} {P : Program} (w : World) {ops : Array Oper} {rest : List Oper} {o : Oper} {a : Act} {Q : Exit -> Act -> World -> Prop}
  (hg : o.guard = none) (m x : Operand) (t : TypeId) (hop : o.op = Op.lookup t m x false)
  (k e : TypeId) (K : Keyed P k) (ht : P.underlying t = some (.map k e)) (he : P.underlying e = some .bool) (hz : (zeroValue e).run P w = .ok (.bool false) w) (b n : Nat) (D : DataW H)
  (hm : a.eval m = .map (some b)) (hown : w.ownsMap P k (plainElem P e) b n D) (key : Value) (kl : Lit) (hx : a.eval x = key) (hkey : keyOf P k key = some kl) (c : Bool) (hat : D.atKey kl (.lit (.bool false)) = .lit (.bool c))
  (hK : wpList P ops Q rest (a.put o.dst (.bool c)) w) :
  wpList P ops Q (o :: rest) a w := by
 refine wpList_plain hg fun K' hK' => ?_
 obtain ⟨v, ps, hrun, hv⟩ := hown.lookup K ht hz (plainElem_bool he false) hkey
 rw [hat] at hv
 have := zS he hv
 subst this
 unfold Oper.wp
 simp [execOp, hop, hm, hx, hrun, Result.andThen]
 exact hK' _ _ hK
theorem Oj : Keyed Tryz.prog 3 := int_keyed Tryz.underlying3
theorem Qq (w : World) : (zeroValue 4).run Tryz.prog w = .ok (.bool false) w := by kernel_rfl
theorem GR : Tryz.prog.underlying 4 = some .bool := by kernel_rfl
theorem Oi : Tryz.prog.underlying 149 = some (.map 3 4) := by kernel_rfl
theorem nK : Tryz.prog.underlying 53 = some (.slice 3) := by kernel_rfl
theorem A7 : (Tryz.prog.info? 3).map (fun i => (i.zero, i.size, i.bytes)) = some (some (.int .i64 0), 1, 8) := by kernel_rfl
def mG (zs : List Int) (k : Nat) : List Int := (zs.take k).foldl addN []
noncomputable def aaT (zs : List Int) (k : Nat) : DataW Unit := setOf (.lit (.bool true)) ((mG zs k).map (Lit.int .i64))
theorem WZ (zs : List Int) {k : Nat} {x : Int} (h : zs[k]? = some x) : mG zs (k + 1) = addN (mG zs k) x := by
 unfold mG
 obtain ⟨hk, rfl⟩ := zC.1 h
 rw [List.take_add_one, List.foldl_append, h]
 rfl
theorem VH (zs : List Int) (k : Nat) : (mG zs k).length <= k := by
 unfold mG
 have := Nj (zs.take k) []
 rw [List.length_take] at this
 simp at this
 omega
def iD (zs : List Int) (w : World) (e : Ending) (w' : World) : Prop :=
 ∃ g cap cur E, e = .returned (.slice (some ⟨g, 0, none⟩) (mF zs).length cap) /\ w.heap.size <= g /\ Below w.heap.size w w' /\ w'.heap[g]? = some (.cells cur E (0, 0)) /\ cur.size = cap /\ (mF zs).length <= cap /\ cap <= maxLen /\
  ∀ (i : Nat) (x : Int), (mF zs)[i]? = some x -> cur[i]? = some (.int .i64 x)
theorem aaR {zs : List Int} {w wr : World} {v : Value} (hz : zs.length <= 34359738368) (hrow : wr.ownsRow (w.heap.size + 1) 3 1 v (mG zs zs.length).length ((mG zs zs.length).map (Value.int .i64))) (hB : Below w.heap.size w wr) (hnil : v ≠ .slice none 0 0) :
  Calls Tryz.prog 165 #[v] wr fun e w' => e = .returned (.tuple #[]) /\ iD zs w (.returned v) w' := by
 have hA : mG zs zs.length = y7 zs := by unfold mG y7; rw [List.take_length]
 rw [hA] at hrow
 have hle : (y7 zs).length <= zs.length := by rw [<- hA]; exact VH zs _
 obtain ⟨hlen, hrow⟩ := hrow
 rcases hrow with ⟨h, _⟩ | ⟨g, cap, cur, rfl, hg, hb, hcap, hmax, hsz, htk⟩
 ·exact absurd h hnil
 have hsz' : cur.size = cap := by omega
 have hcs : ∀ (i : Nat) (x : Int), (y7 zs)[i]? = some x -> cur[i]? = some (.int .i64 x) := by
  intro i x hx
  have hi := (zC.1 hx).1
  have e : (cur.toList.take ((y7 zs).length * 1))[i]? = ((y7 zs).map (Value.int .i64))[i]? := by rw [htk]
  rw [List.getElem?_take, if_pos (by omega), List.getElem?_map, hx, Array.getElem?_toList] at e
  exact e
 refine (Oh l191 wr g cap cur _ (y7 zs) hb hsz' hcap (by omega) hcs).mono ?_
 rintro e w' ⟨rfl, h1, h2, h3, h4, h5, cur', h6, h7, h8⟩
 have hlI : (mF zs).length = (y7 zs).length := by unfold mF; rw [List.length_mergeSort]
 refine ⟨rfl, g, cap, cur', _, by rw [hlI], by omega, ?_, h6, h7, by rw [hlI]; exact hcap, hmax, h8⟩
 have hs := hB.size
 exact ⟨h1.trans hB.os, h2.trans hB.tape, h3.trans hB.output, Nat.le_trans hs h4, fun c hc => (h5 c (by omega) (by omega)).trans (hB.block c hc)⟩
theorem OL {wr : World} {base : Nat} {v : Value} {n : Nat} {xs : List Value} {k : Nat} (h : wr.ownsRow base 3 1 v n xs) (hk : k < base) : some k ≠ v.ownBlock := fun e => by
 have := (h.lt k e.symm).1
 omega
set_option maxHeartbeats 4000000 in
set_option maxRecDepth 100000 in
theorem zn (ad : Option Addr) (cap : Nat) (zs : List Int) (w : World) (hz : zs.length <= 34359738368) (hc : ∀ (j : Nat) (x : Int), zs[j]? = some x -> ∃ b off, ad = some ⟨b, off, none⟩ /\ b < w.heap.size /\ w.cell? ⟨b, off + j, none⟩ = some (.int .i64 x)) (hwz : ∀ n, n ∈ zs -> (Lit.int .i64 n).wf = true) :
  Calls Tryz.prog 118 #[.slice ad zs.length cap] w fun e w' => iD zs w e w' := by
 have hmm := @run_makeMap Tryz.prog
 obtain ⟨i0, hi, hz0, hz1, hz2⟩ := info_parts A7
 have hend := fun (wr : World) (v : Value) (h1 : wr.ownsRow (w.heap.size + 1) 3 1 v (mG zs zs.length).length ((mG zs zs.length).map (Value.int .i64))) (h2 : Below w.heap.size w wr) (h3 : v ≠ .slice none 0 0) => aaR hz h1 h2 h3
 go_enter Tryz.func118, Tryz.ntmps118
 go_wp2
 go_loopw [4, 11] (fun v i wr => ∃ k : Nat, k <= zs.length /\ i = .int .i64 k /\ wr.ownsMap Tryz.prog 3 (plainElem (H := Unit) Tryz.prog 4) w.heap.size k (aaT zs k) /\ wr.ownsRow (w.heap.size + 1) 3 1 v (mG zs k).length ((mG zs k).map (Value.int .i64)) /\
   Below w.heap.size w wr /\ w.heap.size + 1 <= wr.heap.size /\ v ≠ .slice none 0 0)
  (fun _ i _ => zs.length - (intOf i).toNat)
 case atStart =>
  exact ⟨0, Nat.zero_le _, rfl, (World.ownsMap_made _ _ _ _).alloc _, by rw [show mG zs 0 = [] from rfl]; simpa using World.ownsRow_made (base := w.heap.size + 1) (e := 3) (size := 1) (w.alloc (.map #[] 0)) #[] 0 (by simp) (by unfold maxLen; omega) rfl, ((Below.refl _ _).alloc (Nat.le_refl _) _).alloc (by simp) _, by simp, by simp⟩
 case round =>
  obtain ⟨k, hk, rfl, hown, hrow, hnx, hws, hnil⟩ := hrel
  by_cases hlt : k < zs.length
  ·obtain ⟨x, hx⟩ : ∃ x, zs[k]? = some x := ⟨_, zF hlt⟩
   obtain ⟨b, off, rfl, hb, hcell⟩ := hc k x hx
   have hcx : wr.cell? ⟨b, off + k, none⟩ = some (.int .i64 x) := (hnx.cell (by exact hb)).trans hcell
   have hkey : keyOf Tryz.prog 3 (.int .i64 x) = some (.int .i64 x) := keyOf_int_mk Tryz.underlying3 (hwz x (zG hx))
   have hat : (aaT zs k).atKey (.int .i64 x) (.lit (.bool false)) = .lit (.bool ((mG zs k).contains x)) := ab3 x (mG zs k)
   have hal := VH zs k
   have hsucc := WZ zs hx
   cases hcon : (mG zs k).contains x with
   | true =>
    rw [hcon] at hat
    have hA : mG zs (k + 1) = mG zs k := by rw [hsucc]; unfold addN; rw [if_pos hcon]
    have HA : Hid (mG zs (k + 1) = mG zs k) := hA
    clear hsucc hA hcon hx hal
    go_wp2_with (first
     | (at_lookup; refine oP _ rfl _ _ 149 rfl 3 4 Oj Oi GR (Qq _) w.heap.size k _ rfl hown _ _ rfl hkey true hat ?_)
     | go_in)
    go_roundw
    case rel =>
     refine ⟨k + 1, by omega, by go_num, ?_, ?_, hnx, hws, hnil⟩
     ·unfold aaT
      rw [HA.out]
      exact hown.mono (Nat.le_succ _)
     ·rw [HA.out]; exact hrow
    case measure => simp [intOf]; omega
   | false =>
    rw [hcon] at hat
    have hA : mG zs (k + 1) = mG zs k ++ [x] := by rw [hsucc]; unfold addN; rw [if_neg (by rw [hcon]; simp)]
    have HA : Hid (mG zs (k + 1) = mG zs k ++ [x]) := hA
    clear hsucc hA hcon hx
    go_wp2_with (first
     | (at_lookup; refine oP _ rfl _ _ 149 rfl 3 4 Oj Oi GR (Qq _) w.heap.size k _ rfl hown _ _ rfl hkey false hat ?_)
     | (at_mapUpdate; refine wpList_mapUpdate_own _ rfl _ _ _ 149 rfl 3 4 Oj Oi (plainElem (H := Unit) Tryz.prog 4) w.heap.size k _ rfl hown (by unfold maxLen; omega) _ _ _ rfl rfl hkey _ [] (plainElem_bool GR true) ?_; intro w1 hown1 hgrow1)
     | (at_builtin; refine wpList_append_own _ rfl _ _ 53 rfl (w.heap.size + 1) 3 i0 (.int .i64 0) 1 8 nK hi hz0 hz1 hz2 rfl (by decide) _ _ _ rfl ((hrow.kept hgrow1 (Or.inr (OL hrow (Nat.lt_succ_self _)).symm)).alloc _) ⟨w1.heap.size, 0, none⟩ 1 1 [.int .i64 x] rfl rfl (cell_one_new _ _ _) (ints_oneCell .i64 [x]) (by unfold maxLen; omega) (by omega) (by have := hgrow1.size; simp at this ⊢; omega) ?_; intro v' w2 hown' hgrow2 hnil2)
     | go_in)
    have hr1 := hrow.kept hgrow1 (Or.inr (OL hrow (Nat.lt_succ_self _)).symm)
    have s1 := hgrow1.size
    have s2 := hgrow2.size
    simp at s1 s2
    go_roundw
    case rel =>
     refine ⟨k + 1, by omega, by go_num, ?_, ?_, ?_, by omega, fun h => hnil (hnil2.1 h).1⟩
     ·unfold aaT
      rw [HA.out, List.map_append, List.map_singleton, setOf_snoc]
      exact (hown1.alloc _).kept hgrow2 (OL hr1 (Nat.lt_succ_self _))
     ·rw [HA.out]
      simpa using hown'
     ·exact (((hnx.grown hgrow1 (by omega) (fun j hj => by cases hj; exact Nat.le_refl _)).alloc (by omega) _).grown hgrow2 (by simp; omega) (fun j hj => Nat.le_trans (Nat.le_succ _) (hr1.lt j hj).1))
    case measure => simp [intOf]; omega
  ·have hkk : k = zs.length := by omega
   subst hkk
   have HH := hend wr _ hrow hnx hnil
   go_wp2_with (go_at_call 165; refine HH.mono ?_; rintro e w2 ⟨rfl, h2⟩; have H2 : Hid (iD zs w _ w2) := h2; clear h2)
   go_ret
   exact H2.out
theorem MH {zs : List Int} {w w' : World} {S : Nat -> Nat -> Prop} {e : Ending} (h : iD zs w e w') : ∃ v, e = .returned v /\ Below w.heap.size w w' /\ vF w.heap.size w' S true [⟨false, .list (.base .int)⟩] (mF zs) v := by
 obtain ⟨g, cap, cur, E, rfl, hg, hB, hb, hsz, hcap, hmax, hcs⟩ := h
 have hlt : g < w'.heap.size := (Array.getElem?_eq_some_iff.1 hb).1
 refine ⟨_, rfl, hB, [_], rfl, fun i c => i = 0 /\ c = g, ⟨?_, trivial⟩, fun i c hc => by obtain ⟨_, rfl⟩ := hc; exact ⟨hg, hlt⟩, fun i i2 c h1 h2 => h1.1.trans h2.1.symm⟩
 ·exact Ow.list (.base .int) (mF zs) g cap cur E (fun i _ => .int .i64 ((mF zs).getD i 0)) (fun _ _ _ => False) _ hb hcap hmax (by rw [hsz]; exact (Nat.mul_one _).symm) ⟨rfl, rfl⟩ (fun i x j d hx hd => by
   cases j with
   | succ j => simp [Ty.cells, Base.cells] at hd
   | zero =>
    have e : i * (Ty.base .int).size + 0 = i := by show i * 1 + 0 = i; omega
    rw [e, hcs i x hx]
    simp [zE, hx]) (fun i x j d hx hd => by
   cases j with
   | succ j => simp [Ty.cells, Base.cells] at hd
   | zero =>
    simp only [Ty.cells, Base.cells, List.getElem?_cons_zero, zD] at hd
    subst hd
    have : (mF zs).getD i 0 = x := by simp [zE, hx]
    rw [this]
    exact Ow.int _ _ _) (fun _ _ _ h => h.elim) fun _ _ _ _ _ h => h.elim
theorem EQ {xs ys : List Int} (h : DF xs = some ys) : xs.length <= 34359738368 /\ (∀ n, n ∈ xs -> (Lit.int .i64 n).wf = true) /\ ys = mF xs := by
 unfold DF at h
 obtain ⟨_, g, h⟩ := zB.1 h
 split at h
 case isFalse => cases h
 rename_i hall
 refine ⟨fM g, fun n hn => ?_, (Option.some.inj h).symm⟩
 have := List.all_eq_true.1 hall n hn
 unfold abH at this
 simp only [zI, decide_eq_true_eq] at this
 exact WalkArith.wf_i64 this
theorem Es {w : World} {S : Nat -> Nat -> Prop} {xs : List Int} {u : Value} (hr : Rep w S (.list (.base .int) xs) u) (hS : ∀ b o, S b o -> b < w.heap.size) (hl : xs.length <= 34359738368) (hwf : ∀ n, n ∈ xs -> (Lit.int .i64 n).wf = true) :
  Calls Tryz.prog 118 #[u] w fun e w' => iD xs w e w' := by
 generalize hd : D.list (.base .int) xs = d at hr
 cases hr with
 | int => cases hd
 | bool => cases hd
 | str => cases hd
 | nil t => cases hd; exact zn none 0 [] w (by simp) (fun j x hx => by simp at hx) hwf
 | emp t a cap => cases hd; exact zn (some a) cap [] w (by simp) (fun j x hx => by simp at hx) hwf
 | list t xs' b off cap vs hcap hc hrr =>
  cases hd
  refine zn _ cap _ w hl (fun j x hx => ⟨b, off, rfl, hS _ _ (hc j x 0 _ hx rfl).2, ?_⟩) hwf
  have h1 := (hc j x 0 _ hx rfl).1
  have h2 := lV (hrr j x 0 _ hx rfl)
  have e : j * (Ty.base .int).size + 0 = j := by show j * 1 + 0 = j; omega
  rw [e, h2] at h1
  exact h1
theorem Lc : Sound Tryz.prog XY := by
 intro w S args x y h ha hr hS
 rcases args with _ | ⟨u, _ | ⟨u2, r⟩⟩
 ·exact hr.elim
 ·have h : DF x = some y := h
  obtain ⟨h1, h2, rfl⟩ := EQ h
  refine (Es (xs := x) hr.1 hS h1 h2).mono ?_
  intro e w' h3
  exact MH h3
 ·exact hr.elim
end Go.Proofs.YtgfjbogcidlaeaaGreatDoor
