import Derived.Test.YtgfjbogcidlaeaaGreatDoorDen3
import Derived.Test.YtgfjbogcidlaeaaGreatDoorSetW
import Derived.Test.YtgfjbogcidlaeaaGreatDoorKept
import Derived.Test.YtgfjbogcidlaeaaGreatDoorHas1
import Derived.Deep.LoopGhost
/- The walk over impl.reach and over impl.AllUses, which hands it a closure. -/
set_option linter.unusedSimpArgs false
set_option linter.unusedVariables false
namespace Go.Proofs.YtgfjbogcidlaeaaGreatDoor
open Go.Abs Go.Proofs Go.RowKit
def kM (w : World) (base : Nat) (v : Value) (xs : List Int) : Prop :=
 ∃ (ad : Option Addr) (cap : Nat), v = .slice ad xs.length cap /\ xs.length <= cap /\ cap <= maxLen /\ (0 < cap -> ∃ g off cur E, ad = some ⟨g, off, none⟩ /\ base <= g /\ w.heap[g]? = some (.cells cur E (0, 0)) /\ off + cap <= cur.size /\
  ∀ (i : Nat) (x : Int), xs[i]? = some x -> cur[off + i]? = some (.int .i64 x))
def dm : Value -> Option Nat
 | .slice (some a) _ cap => if cap = 0 then none else some a.block
 | _ => none
theorem kM.lt {w : World} {base : Nat} {v : Value} {xs : List Int} (h : kM w base v xs) {g : Nat} (hg : dm v = some g) : base <= g /\ g < w.heap.size := by
 obtain ⟨ad, cap, rfl, h1, h2, h3⟩ := h
 by_cases hc : cap = 0
 ·subst hc
  cases ad <;> simp [dm] at hg
 ·obtain ⟨g', off, cur, E, rfl, h4, h5, _⟩ := h3 (by omega)
  simp only [dm, if_neg hc, zD] at hg
  subst hg
  exact ⟨h4, (Array.getElem?_eq_some_iff.1 h5).1⟩
theorem kM.kept {w w' : World} {base : Nat} {v : Value} {xs : List Int} (h : kM w base v xs) (hk : ∀ g, dm v = some g -> w'.heap[g]? = w.heap[g]?) : kM w' base v xs := by
 obtain ⟨ad, cap, rfl, h1, h2, h3⟩ := h
 refine ⟨ad, cap, rfl, h1, h2, fun hc => ?_⟩
 obtain ⟨g, off, cur, E, rfl, h4, h5, h6⟩ := h3 hc
 exact ⟨g, off, cur, E, rfl, h4, (hk g (by simp [dm]; omega)).trans h5, h6⟩
theorem KN {P : Program} {w : World} (t tx ty e E : TypeId) (i : TypeInfo) (ht : P.underlying t = some (.slice e)) (hi : P.info? e = some i) (g off sLen sCap : Nat) (cur : Array Value) (hg : w.heap[g]? = some (.cells cur E (0, 0)))
  (x : Value) (m : Nat) (news : List Value) (hs : Src P i.size tx x m news w) (hroom : sLen + m <= sCap) (hfit : off + sLen * i.size + news.length <= cur.size) :
  (Builtin.append_ #[t, tx] ty #[.slice (some ⟨g, off, none⟩) sLen sCap, x]).run P w =
   .ok (.slice (some ⟨g, off, none⟩) (sLen + m) sCap) (w.setRow g (cur.toList.take (off + sLen * i.size) ++ news ++ cur.toList.drop (off + sLen * i.size + news.length)).toArray) := by
 have hst := run_storeCells_at P g (off + sLen * i.size) E news 0 cur w hg (by simpa using hfit) hs.one
 simp only [Nat.add_zero] at hst
 rcases hs.kind with ⟨e', hk⟩ | hk <;> simp [Builtin.append_, run_underlying ht, run_underlying hk, sizeOf, typeInfo, hi, hs.len, hroom, hs.cells, Addr.add_lit, hst]
theorem OJ (w : World) (ty : TypeId) (base : Nat) (v x : Value) (xs ys : List Int) (h : kM w base v xs) (hs : Src Tryz.prog 1 53 x ys.length (ys.map (Value.int .i64)) w) (hl : xs.length + ys.length <= 34359738368) (hb : base <= w.heap.size) :
  ∃ v' w', (Builtin.append_ #[53, 53] ty #[v, x]).run Tryz.prog w = .ok v' w' /\ kM w' base v' (xs ++ ys) /\ w.grownBy w' (dm v) /\ (dm v' = dm v \/ ∃ g, dm v' = some g /\ w.heap.size <= g) := by
 obtain ⟨i0, hi, hz0, hz1, hz2⟩ := info_parts A7
 obtain ⟨ad, cap, rfl, h1, h2, h3⟩ := h
 have hs' : Src Tryz.prog i0.size 53 x ys.length (ys.map (Value.int .i64)) w := by rw [hz1]; exact hs
 by_cases hroom : xs.length + ys.length <= cap
 ·by_cases hy : ys = []
  ·subst hy
   have hs0 : Src Tryz.prog i0.size 53 x 0 [] w := hs'
   refine ⟨_, w, ve 53 53 ty 3 i0 nK hi ad xs.length cap h1 x hs0, ?_, ⟨rfl, rfl, rfl, Nat.le_refl _, fun _ _ _ => rfl⟩, .inl rfl⟩
   rw [List.append_nil]
   exact ⟨ad, cap, rfl, h1, h2, h3⟩
  ·have hyl : 0 < ys.length := by
    cases ys with
    | nil => exact absurd rfl hy
    | cons => simp
   have hc0 : ¬ cap = 0 := by omega
   obtain ⟨g, off, cur, E, rfl, h4, h5, h6, h7⟩ := h3 (by omega)
   have hr := KN (P := Tryz.prog) 53 53 ty 3 E i0 nK hi g off xs.length cap cur h5 x ys.length _ hs' hroom (by rw [hz1]; simp; omega)
   refine ⟨_, _, hr, ?_, ?_, .inl (by simp [dm])⟩
   ·rw [hz1]
    refine ⟨_, cap, by rw [List.length_append], by rw [List.length_append]; exact hroom, h2, fun _ => ⟨g, off, _, E, rfl, h4, setRow_heap w g _ _ E (0, 0) h5, ?_, fun i y hy' => ?_⟩⟩
    ·simp
     omega
    ·have hsz : cur.toList.length = cur.size := Array.length_toList
     rw [List.getElem?_toArray]
     by_cases hi' : i < xs.length
     ·rw [List.getElem?_append_left hi'] at hy'
      rw [List.append_assoc, List.getElem?_append_left (by rw [List.length_take]; omega), List.getElem?_take, if_pos (by omega), Array.getElem?_toList]
      exact h7 i y hy'
     ·rw [List.getElem?_append_right (by omega)] at hy'
      have hi2 := (zC.1 hy').1
      rw [List.getElem?_append_left (by simp; omega), List.getElem?_append_right (by rw [List.length_take]; omega), List.length_take]
      have e : off + i - min (off + xs.length * 1) cur.toList.length = i - xs.length := by omega
      rw [e, List.getElem?_map, hy']; rfl
   ·refine ⟨rfl, rfl, rfl, by simp, fun c hc hne => setRow_other w g c _ fun e => hne ?_⟩
    subst e
    simp [dm, hc0]
 ·have hold : ∃ olds : List Value, olds = xs.map (Value.int .i64) /\ (Builtin.firstCells i0.size xs.length (.slice ad xs.length cap)).run Tryz.prog w.drew = .ok olds.toArray w.drew := by
   refine ⟨_, rfl, ?_⟩
   by_cases hc : cap = 0
   ·have hx : xs = [] := List.length_eq_zero_iff.1 (by omega)
    subst hx
    cases ad with
    | none => exact run_firstCells_none w.drew _ _ _ _
    | some a => exact run_firstCells_some w.drew _ 0 a 0 cap [] (by simp) (by simp)
   ·obtain ⟨g, off, cur, E, rfl, h4, h5, h6, h7⟩ := h3 (by omega)
    refine run_firstCells_some w.drew _ _ _ _ _ _ (by rw [hz1]; simp) fun j u hu => ?_
    rw [List.getElem?_map, Option.map_eq_some_iff] at hu
    obtain ⟨y, hy, rfl⟩ := hu
    rw [addr_add]
    show w.cell? _ = _
    simp only [World.cell?, h5]
    simpa using h7 j y hy
  obtain ⟨olds, ho, hold⟩ := hold
  have hr := run_append_grow_src (P := Tryz.prog) w 53 53 ty 3 i0 (.int .i64 0) nK hi hz0 ad xs.length cap olds hold x ys.length _ hs' (by omega) (by omega) (growslice_fits (by omega) (by rw [hz2]; omega))
  have hge := grownCap_ge w (xs.length + ys.length) cap 3
  refine ⟨_, _, hr, ?_, ?_, .inr ⟨w.heap.size, ?_, Nat.le_refl _⟩⟩
  ·refine ⟨_, _, by rw [List.length_append], by rw [List.length_append]; exact hge, grownCap_le_maxLen w _ _ _ (by unfold maxLen; omega), fun _ => ⟨w.heap.size, 0, _, _, rfl, hb, heap_alloc_new w.drew _, ?_, fun i y hy => ?_⟩⟩
   ·simp only [Array.size_append, List.size_toArray, size_zeroCells, List.length_append, ho, List.length_map]
    show _ <= _ + _ * 1
    omega
   ·rw [Nat.zero_add, Array.getElem?_append_left (by have := (zC.1 hy).1; simp [ho] at this ⊢; omega), List.getElem?_toArray, ho, <- List.map_append, List.getElem?_map, hy]; rfl
  ·exact ⟨rfl, rfl, rfl, by simp, fun c hc _ => Below.heap_alloc w.drew _ _ hc⟩
  ·have : ¬ grownCap w (xs.length + ys.length) cap 3 = 0 := by omega
   simp [dm, this]
theorem Xp (w : World) (base : Nat) (v : Value) (k : Int) (t : List Int) (h : kM w base v (k :: t)) :
  ∃ v', (Instr.sliceAt 53 v (some (.int .i64 1)) none none).run Tryz.prog w = .ok v' w /\ kM w base v' t /\ (dm v' = none \/ dm v' = dm v) := by
 obtain ⟨i0, hi, hz0, hz1, hz2⟩ := info_parts A7
 obtain ⟨ad, cap, rfl, h1, h2, h3⟩ := h
 simp only [List.length_cons] at h1
 obtain ⟨g, off, cur, E, rfl, h4, h5, h6, h7⟩ := h3 (by omega)
 refine ⟨.slice (some (if cap = 1 then ⟨g, off, none⟩ else ⟨g, off + 1, none⟩)) t.length (cap - 1), ?_, ⟨_, cap - 1, rfl, by omega, by omega, fun hc => ⟨g, off + 1, cur, E, ?_, h4, h5, by omega, fun i x hx => ?_⟩⟩, ?_⟩
 ·have e1 : (1 : Int) <= ((t.length : Int) + 1) := by omega
  simp [Instr.sliceAt, Instr.slice, Instr.sliceBounds, Instr.sliceBound, asIntOf, run_underlying nK, sizeOf, typeInfo, hi, hz1, e1, Addr.add_lit]
  try (split <;> simp_all)
 ·rw [if_neg (by omega)]
 ·have := h7 (i + 1) x (by simpa using hx)
  rw [show off + 1 + i = off + (i + 1) by omega]
  exact this
 ·by_cases hc : cap = 1
  ·left; simp [dm, hc]
  ·right
   have q1 : ¬ cap - 1 = 0 := by omega
   have q2 : ¬ cap = 0 := by omega
   simp [dm, hc, q1, q2]
theorem YB {w : World} {base : Nat} {v : Value} {xs : List Int} (h : kM w base v xs) : Src Tryz.prog 1 53 v xs.length (xs.map (Value.int .i64)) w := by
 obtain ⟨ad, cap, rfl, h1, h2, h3⟩ := h
 by_cases hc : cap = 0
 ·have hx : xs = [] := List.length_eq_zero_iff.1 (by omega)
  subst hx
  cases ad with
  | none => exact Src.ofNil w nK cap
  | some a => exact Src.ofSlice w nK a 0 cap [] (by simp) (by simp) (by simp)
 ·obtain ⟨g, off, cur, E, rfl, h4, h5, h6, h7⟩ := h3 (by omega)
  refine Src.ofSlice w nK _ _ cap _ (by simp) (fun j u hu => ?_) fun u hu => ?_
  ·rw [List.getElem?_map, Option.map_eq_some_iff] at hu
   obtain ⟨y, hy, rfl⟩ := hu
   rw [addr_add]
   simp only [World.cell?, h5]
   simpa using h7 j y hy
  ·obtain ⟨_, _, rfl⟩ := List.mem_map.1 hu; rfl
theorem VR {w : World} {base : Nat} {v : Value} {xs : List Int} {fp : Nat -> Prop} (h : Ow w (fun _ _ => False) true (.list (.base .int) xs) v fp) (hf : ∀ c, fp c -> base <= c) : kM w base v xs := by
 generalize hd : D.list (.base .int) xs = d at h
 cases h with
 | int => cases hd
 | bool => cases hd
 | str => cases hd
 | nil t => cases hd; exact ⟨none, 0, rfl, Nat.le_refl _, by unfold maxLen; omega, fun h => absurd h (by omega)⟩
 | ro _ _ _ hd' => cases hd'
 | list t xs' b cap arr E vs fps _ hb hcap hmax hsz hfb hc hr hfp hdis =>
  cases hd
  refine ⟨_, cap, rfl, hcap, hmax, fun _ => ⟨b, 0, arr, E, rfl, hf b hfb, hb, by rw [hsz]; show 0 + cap <= cap * 1; omega, fun i x hx => ?_⟩⟩
  have h1 := hc i x 0 _ hx rfl
  have h2 := hr i x 0 _ hx rfl
  have e : i * (Ty.base .int).size + 0 = 0 + i := by show i * 1 + 0 = 0 + i; omega
  rw [e] at h1
  rw [h1]
  generalize vs i 0 = u at h2
  generalize hd2 : D.int .i64 x = d2 at h2
  cases h2 with
  | int => cases hd2; rfl
  | bool => cases hd2
  | str => cases hd2
  | nil => cases hd2
  | ro _ _ _ hd' => cases hd'
  | list => cases hd2
theorem Ii {w : World} {base : Nat} {v : Value} {xs : List Int} (h : w.ownsRow base 3 1 v xs.length (xs.map (Value.int .i64))) : Rep w (fun b _ => v.ownBlock = some b) (.list (.base .int) xs) v := by
 obtain ⟨hl, ⟨rfl, hx⟩ | ⟨g, cap, cur, rfl, hg, hb, hcap, hmax, hsz, htk⟩⟩ := h
 ·have : xs = [] := List.length_eq_zero_iff.1 hx
  subst this
  exact .nil _
 ·refine .list (.base .int) xs g 0 cap (fun i _ => .int .i64 (xs.getD i 0)) hcap (fun i x j d hx hd => ?_) fun i x j d hx hd => ?_
  ·cases j with
   | succ j => simp [Ty.cells, Base.cells] at hd
   | zero =>
    have hi := (zC.1 hx).1
    have e : (cur.toList.take (xs.length * 1))[i]? = (xs.map (Value.int .i64))[i]? := by rw [htk]
    rw [List.getElem?_take, if_pos (by omega), List.getElem?_map, hx, Array.getElem?_toList] at e
    have e2 : 0 + (i * (Ty.base .int).size + 0) = i := by show 0 + (i * 1 + 0) = i; omega
    refine ⟨?_, rfl⟩
    simp only [World.cell?, hb, e2]
    rw [e]
    simp [zE, hx]
  ·cases j with
   | succ j => simp [Ty.cells, Base.cells] at hd
   | zero =>
    simp only [Ty.cells, Base.cells, List.getElem?_cons_zero, zD] at hd
    subst hd
    have : xs.getD i 0 = x := by simp [zE, hx]
    rw [this]
    exact .int _ _
theorem Aw (w : World) {ops : Array Oper} {rest : List Oper} {o : Oper} {a : Act} {Q : Exit -> Act -> World -> Prop} (hg : o.guard = none) (x lo : Operand) (hop : o.op = Op.slice 53 x (some lo) none none)
  (base : Nat) (v : Value) (k : Int) (t : List Int) (hx : a.eval x = v) (hlo : a.eval lo = .int .i64 1) (h : kM w base v (k :: t))
  (hK : ∀ v', kM w base v' t -> (dm v' = none \/ dm v' = dm v) -> wpList Tryz.prog ops Q rest (a.put o.dst v') w) : wpList Tryz.prog ops Q (o :: rest) a w := by
 refine wpList_plain hg fun K' hK' => ?_
 obtain ⟨v', hr, h1, h2⟩ := Xp w base v k t h
 unfold Oper.wp
 simp [execOp, hop, hx, hlo, hr, Result.andThen]
 exact hK' _ _ (hK v' h1 h2)
theorem Fg (w : World) {ops : Array Oper} {rest : List Oper} {o : Oper} {a : Act} {Q : Exit -> Act -> World -> Prop} (hg : o.guard = none) (s x : Operand)
  (ho : o.op = .call { callee := .builtin .append, args := #[s, x], argTypes := #[53, 53] })
  (base : Nat) (v : Value) (xs : List Int) (u : Value) (ys : List Int) (hs : a.eval s = v) (hx : a.eval x = u) (h : kM w base v xs) (hu : Src Tryz.prog 1 53 u ys.length (ys.map (Value.int .i64)) w) (hl : xs.length + ys.length <= 34359738368) (hb : base <= w.heap.size)
  (hK : ∀ v' w', kM w' base v' (xs ++ ys) -> w.grownBy w' (dm v) -> (dm v' = dm v \/ ∃ g, dm v' = some g /\ w.heap.size <= g) -> wpList Tryz.prog ops Q rest (a.put o.dst v') w') : wpList Tryz.prog ops Q (o :: rest) a w := by
 refine wpList_plain hg fun K' hK' => ?_
 obtain ⟨v', w', hr, h1, h2, h3⟩ := OJ w o.type base v u xs ys h hu hl hb
 unfold Oper.wp execOp
 simp only [ho, resolve, invoke, builtin, Sem.run_bind, Sem.run_pure, Result.andThen_ok, List.map_toArray, List.map_cons, List.map_nil, hs, hx, hr]
 exact hK' _ _ (hK v' w' h1 h2 h3)
theorem Z7 (out : List Int) (k : Int) (hl : out.length <= 34359738368) (w : World) (ha : amb w) (base : Nat) (v : Value) (h : w.ownsRow base 3 1 v out.length (out.map (Value.int .i64))) :
  Calls Tryz.prog 51 #[v, .int .i64 k] w fun e w' => e = .returned (.bool (out.contains k)) /\ Below w.heap.size w w' := by
 have hs := yY w (fun b _ => v.ownBlock = some b) [v, .int .i64 k] (out, k) (out.contains k) (F7 out k hl) ha ⟨⟨Ii h, trivial⟩, ⟨Rep.int _ _, trivial⟩⟩ (fun b o hs => (h.lt b hs).2)
 refine hs.mono ?_
 rintro e w' ⟨v, rfl, hB, us, rfl, fps, hr, _⟩
 refine ⟨?_, hB⟩
 rcases us with _ | ⟨u, _ | ⟨u2, r⟩⟩
 ·exact hr.elim
 ·have := hr.1
  generalize hd : D.bool (out.contains k) = d at this
  have h2 : Ow w' (fun _ _ => False) true d u (fps 0) := hd ▸ hr.1
  cases h2 with
  | int => cases hd
  | bool b => cases hd; rfl
  | str => cases hd
  | nil => cases hd
  | ro d v fp hd' => cases hd'
  | list => cases hd
 ·exact hr.elim
structure Step (g : Nat) (caps : Array Value) (D : Int -> Option (List Int)) (w : World) : Prop where
 enters : ∀ args w', (callFunc g args).run Tryz.prog w' = .ok (.enter g args) w'
 call : ∀ (k : Int) (r : List Int), D k = some r -> ∀ w', Below w.heap.size w w' -> Calls Tryz.prog g (#[.int .i64 k] ++ caps) w' fun e w'' => ∃ v, e = .returned v /\ Below w'.heap.size w' w'' /\ kM w'' w'.heap.size v r
structure AtQ (D : Int -> Option (List Int)) (w : World) (res : List Int) (n : Nat) (v5 v6 : Value) (out todo : List Int) (wr : World) : Prop where
 it : iter (kQ D) n (out, todo) = some res
 row : wr.ownsRow w.heap.size 3 1 v5 out.length (out.map (Value.int .i64))
 q : kM wr w.heap.size v6 todo
 ne : ∀ g, dm v6 = some g -> v5.ownBlock ≠ some g
 below : Below w.heap.size w wr
 len : out.length <= 34359738368
theorem Dt {w w' : World} {base : Nat} {v : Value} {n : Nat} {xs : List Value} (h : w.ownsRow base 3 1 v n xs) (hB : Below w.heap.size w w') : w'.ownsRow base 3 1 v n xs := by
 obtain ⟨a, b⟩ := h
 refine ⟨a, b.imp id ?_⟩
 rintro ⟨g, cap, cur, e, h1, h2, h3⟩
 exact ⟨g, cap, cur, e, h1, (hB.block g (Array.getElem?_eq_some_iff.1 h2).1).trans h2, h3⟩
theorem OQ {w w' : World} {base : Nat} {v : Value} {xs : List Int} (h : kM w base v xs) (hB : Below w.heap.size w w') : kM w' base v xs := h.kept fun g hg => hB.block g (h.lt hg).2
theorem iD.lift {zs : List Int} {w wr w' : World} {e : Ending} (h : iD zs wr e w') (hB : Below w.heap.size w wr) : iD zs w e w' := by
 obtain ⟨g, cap, cur, E, h1, h2, h3, h4⟩ := h
 have := hB.size
 exact ⟨g, cap, cur, E, h1, by omega, hB.trans (h3.mono hB.size), h4⟩
theorem iD.val {zs : List Int} {w w' : World} {e : Ending} (h : iD zs w e w') : ∃ v, e = .returned v := by
 obtain ⟨g, cap, cur, E, h1, _⟩ := h
 exact ⟨_, h1⟩
theorem aa6 {w w' : World} {base : Nat} {v : Value} {xs : List Int} {row : Option Nat} (h : kM w base v xs) (hg : w.grownBy w' row) (hne : ∀ g, dm v = some g -> row ≠ some g) : kM w' base v xs :=
 h.kept fun g hg' => hg.block g (h.lt hg').2 fun e => hne g hg' e.symm
theorem aa7 {w : World} {base : Nat} {v : Value} {xs : List Int} (h : kM w base v xs) (b : Obj) : kM (w.alloc b) base v xs :=
 h.kept fun g hg' => Below.heap_alloc w _ _ (h.lt hg').2
theorem AtQ.next {D : Int -> Option (List Int)} {w w4 w5 w6 : World} {res : List Int} {m : Nat} {out t r : List Int} {k : Int} {v7 v8 v10 : Value} (hit : iter (kQ D) m (out ++ [k], t ++ r) = some res)
  (hrow4 : w4.ownsRow w.heap.size 3 1 v8 (out.length + 1) (out.map (Value.int .i64) ++ [.int .i64 k])) (hB4 : Below w.heap.size w w4) (hB5 : Below w4.heap.size w4 w5)
  (hq75 : kM w5 w.heap.size v7 t) (hq10 : kM w6 w.heap.size v10 (t ++ r)) (hg6 : w5.grownBy w6 (dm v7)) (hb10 : dm v10 = dm v7 \/ ∃ g, dm v10 = some g /\ w5.heap.size <= g)
  (hsep : ∀ g, dm v7 = some g -> v8.ownBlock ≠ some g) (hl : out.length + 1 <= 34359738368) : AtQ D w res m v8 v10 (out ++ [k]) (t ++ r) w6 := by
 have hrow5 := Dt hrow4 hB5
 have hs5 := hB5.size
 have hs4 := hB4.size
 refine ⟨hit, ?_, hq10, ?_, ?_, by simpa using hl⟩
 ·have := hrow5.kept hg6 (by
   cases h8 : v8.ownBlock with
   | none => exact .inl rfl
   | some c => exact .inr fun e => hsep c e.symm h8)
  simpa using this
 ·intro g hg e8
  have h8 := (hrow4.lt g e8).2
  rcases hb10 with h | ⟨g', h, h'⟩
  ·exact hsep g (h ▸ hg) e8
  ·rw [h] at hg
   cases hg
   omega
 ·exact (hB4.trans (hB5.mono hs4)).grown hg6 (by omega) fun j hj => (hq75.lt hj).1
theorem YG {w2 w4 : World} {base : Nat} {v7 u5 v8 hd : Value} {t : List Int} {b : Obj} (hq72 : kM w2 base v7 t) (hg4 : (w2.alloc b).grownBy w4 u5.ownBlock) (hloc : v8.ownBlock = u5.ownBlock \/ v8.ownBlock = some (w2.alloc b).heap.size)
  (hb7 : dm v7 = none \/ dm v7 = dm hd) (hne : ∀ g, dm hd = some g -> u5.ownBlock ≠ some g) : kM w4 base v7 t /\ ∀ g, dm v7 = some g -> v8.ownBlock ≠ some g := by
 have hn : ∀ g, dm v7 = some g -> u5.ownBlock ≠ some g := fun g hg => by
  rcases hb7 with h | h
  ·rw [h] at hg; cases hg
  ·exact hne g (h ▸ hg)
 refine ⟨aa6 (aa7 hq72 b) hg4 hn, fun g hg e => ?_⟩
 rcases hloc with h | h
 ·exact hn g hg (h ▸ e)
 ·rw [h] at e
  cases e
  have := (hq72.lt hg).2
  simp at this
  omega
set_option maxHeartbeats 600000 in
set_option maxRecDepth 100000 in
theorem UA {g : Nat} {caps : Array Value} {D : Int -> Option (List Int)} {w : World} (C : Step g caps D w) (ha : amb w) (i : Int) (r0 res : List Int) (h0 : D i = some r0) (hres : ah (kQ D) ([], r0) = some res) (hrl : res.length <= 34359738368) (hwf : ∀ n, n ∈ res -> (Lit.int .i64 n).wf = true) :
  Calls Tryz.prog 162 #[.int .i64 i, .func (.func g) #[] caps] w fun e w' => iD res w e w' := by
 obtain ⟨n, hn⟩ := lJ hres
 have en := C.enters
 have hamb : ∀ w', Below w.heap.size w w' -> amb w' := fun w' hB => amb.keep ha hB.size fun k hk => hB.block k (Nat.lt_of_lt_of_le hk ha.size)
 have hgo := fun (w' : World) (hB : Below w.heap.size w w') => C.call i r0 h0 w' hB
 have HC : Hid (Step g caps D w) := C
 have HX : Hid (∀ w', Below w.heap.size w w' -> amb w') := hamb
 clear C ha hamb h0 hres
 go_enter Tryz.func162, Tryz.ntmps162
 go_wp2_with (go_at_fn g; refine (hgo _ ((Below.refl _ _).alloc (Nat.le_refl _) _)).mono ?_; rintro e1 w1 ⟨v6, rfl, hB1, hq⟩; have H1 : Hid (Below (w.heap.size + 1) (w.alloc (.cells #[] 3)) w1 /\ kM w1 (w.heap.size + 1) v6 r0) := ⟨by simpa using hB1, by simpa using hq⟩; clear hB1 hq)
 go_loopg [5, 6] n (fun k v5 v6 wr => ∃ out todo, AtQ D w res k v5 v6 out todo wr)
 case atStart =>
  obtain ⟨h1, h2⟩ := H1.out
  have hB0 : Below w.heap.size w (w.alloc (.cells #[] 3)) := (Below.refl _ _).alloc (Nat.le_refl _) _
  have hb1 : (w.alloc (.cells #[] 3)).heap.size = w.heap.size + 1 := by simp
  have hold : w1.heap[w.heap.size]? = (w.alloc (.cells #[] 3)).heap[w.heap.size]? := h1.block _ (by omega)
  refine ⟨[], r0, hn, ?_, ?_, fun g hg => ?_, hB0.trans (h1.mono (by omega)), by simp⟩
  ·have hr0 := World.ownsRow_made (base := w.heap.size) (e := 3) (size := 1) w #[] 0 (Nat.le_refl _) (by unfold maxLen; omega) rfl
   obtain ⟨q1, ⟨q2, _⟩ | ⟨g, cap, cur, q2, q3, q4, q5⟩⟩ := hr0
   ·cases q2
   ·cases q2
    exact ⟨rfl, .inr ⟨_, _, cur, rfl, q3, hold.trans q4, q5⟩⟩
  ·obtain ⟨ad, cap, e, g1, g2, g3⟩ := h2
   exact ⟨ad, cap, e, g1, g2, fun hc => by obtain ⟨g, off, cur, E, k1, k2, k3⟩ := g3 hc; exact ⟨g, off, cur, E, k1, by omega, k3⟩⟩
  ·have := (h2.lt hg).1
   intro e
   have e : some w.heap.size = some g := e
   cases e
   omega
 case round =>
  obtain ⟨out, todo, hA⟩ := hrel
  obtain ⟨hit, hrow, hq, hne, hB, hol⟩ := hA
  cases gk with
  | zero => cases hit
  | succ m =>
  have hamb := HX.out wr hB
  cases todo with
  | nil =>
   have hre : out = res := Option.some.inj hit
   subst hre
   obtain ⟨ad, cap, rfl, c1, c2, c3⟩ := hq
   have hgo2 := (Es (Ii hrow) (fun b o hs => (hrow.lt b hs).2) hrl hwf).mono fun e w' h => iD.lift h hB
   have HG : Hid (iD out wr = iD out wr) := rfl
   clear hit hrow hne hB c3 hwf hamb
   simp only [List.length_nil] at c1 ⊢
   go_wp2_with (go_at_call 118; refine hgo2.mono ?_; rintro e2 w2 h2; obtain ⟨v2, rfl⟩ := iD.val h2; have H2 : Hid (iD out w _ w2) := h2; clear h2)
   go_ret
   exact H2.out
  | cons k t =>
   have hq0 := hq
   obtain ⟨ad, cap, rfl, c1, c2, c3⟩ := hq0
   have hcap : 0 < cap := by simp only [List.length_cons] at c1; omega
   obtain ⟨g0, off, cur, E, rfl, c4, c5, c6, c7⟩ := c3 hcap
   have hcell : wr.cell? ⟨g0, off, none⟩ = some (.int .i64 k) := by
    have := c7 0 k rfl
    simp only [World.cell?, c5]
    simpa using this
   have hcall := Z7 out k hol wr hamb w.heap.size u5 hrow
   have hlq : (k :: t).length = t.length + 1 := rfl
   rw [hlq] at hq hne ⊢
   cases hc : out.contains k with
   | true =>
    have hit' : iter (kQ D) m (out, t) = some res := by
     have : iter (kQ D) (m + 1) (out, k :: t) = some res := hit
     unfold iter kQ at this
     simp only [hc, cond_true] at this
     exact this
    rw [hc] at hcall
    have HI : Hid (iter (kQ D) m (out, t) = some res /\ wr.ownsRow w.heap.size 3 1 u5 out.length (out.map (Value.int .i64)) /\ Below w.heap.size w wr /\ (∀ g, dm (.slice (some ⟨g0, off, none⟩) (t.length + 1) cap) = some g -> u5.ownBlock ≠ some g)) := ⟨hit', hrow, hB, hne⟩
    clear hit hit' hrow hB hne hamb c7 c5 hgo
    go_wp2_with (first
     | (refine Aw _ rfl _ _ rfl w.heap.size _ k t rfl rfl hq ?_; intro v7 hq7 hb7)
     | (go_at_call 51; refine hcall.mono ?_; rintro e2 w2 ⟨rfl, hB2⟩; have HB : Hid (Below wr.heap.size wr w2) := hB2; clear hB2)
     | go_in)
    go_roundg m
    case measure => omega
    case rel =>
     obtain ⟨q1, q2, q3, q4⟩ := HI.out
     refine ⟨out, t, q1, Dt q2 HB.out, OQ hq7 HB.out, fun g hg => ?_, q3.trans (HB.out.mono q3.size), hol⟩
     rcases hb7 with h | h
     ·rw [h] at hg; cases hg
     ·exact q4 g (h ▸ hg)
   | false =>
    have hit' : ∃ r, D k = some r /\ out.length + 1 <= 34359738368 /\ t.length + r.length <= 34359738368 /\ iter (kQ D) m (out ++ [k], t ++ r) = some res := by
     have : iter (kQ D) (m + 1) (out, k :: t) = some res := hit
     unfold iter kQ at this
     simp only [hc, cond_false] at this
     cases hd : D k with
     | none => rw [hd] at this; cases this
     | some r =>
      rw [hd, zA] at this
      cases hg1 : gd (out.length + 1) with
      | none => rw [hg1] at this; cases this
      | some u =>
       rw [hg1, zA] at this
       cases hg2 : gd (t.length + r.length) with
       | none => rw [hg2] at this; cases this
       | some u2 =>
        rw [hg2, zA] at this
        exact ⟨r, rfl, fM hg1, fM hg2, this⟩
    obtain ⟨r, hDk, hl1, hl2, hit'⟩ := hit'
    rw [hc] at hcall
    obtain ⟨i0, hi, hz0, hz1, hz2⟩ := info_parts A7
    have hstep := fun (w' : World) (hB' : Below w.heap.size w w') => HC.out.call k r hDk w' hB'
    have HI : Hid (iter (kQ D) m (out ++ [k], t ++ r) = some res /\ (∀ g, dm (.slice (some ⟨g0, off, none⟩) (t.length + 1) cap) = some g -> u5.ownBlock ≠ some g)) := ⟨hit', hne⟩
    have hsz0 := hB.size
    clear hit hit' hne hamb c7 c5 hgo hDk
    go_wp2_with (first
     | (refine Aw _ rfl _ _ rfl w.heap.size _ k t rfl rfl hq ?_; intro v7 hq7 hb7)
     | (go_at_call 51; refine hcall.mono ?_; rintro e2 w2 ⟨rfl, hB2⟩; have hrow2 := Dt hrow hB2; have hq72 := OQ hq7 hB2; have hBw2 := hB.trans (hB2.mono hB.size); have hs2 := hB2.size; clear hB2)
     | (at_builtin; refine Fg _ rfl _ _ rfl w.heap.size _ t _ r rfl rfl hq75 (YB hq9) hl2 hs55 ?_; intro v10 w6 hq10 hgrow6 hb10; have hA : Hid (AtQ D w res m v8 v10 (out ++ [k]) (t ++ r) w6) := AtQ.next HI.out.1 hrow4 hB4 hB5 hq75 hq10 hgrow6 hb10 hsep hl1; clear hq75 hq9 hq10 hgrow6 hb10)
     | (at_builtin; refine wpList_append_own_at _ rfl _ _ 53 rfl w.heap.size 3 i0 (.int .i64 0) 1 8 nK hi hz0 hz1 hz2 rfl (by decide) _ _ _ rfl (hrow2.alloc _) ⟨w2.heap.size, 0, none⟩ 1 1 [.int .i64 k] rfl rfl (cell_one_new _ _ _) (ints_oneCell .i64 [k]) (by unfold maxLen; omega) (by omega) (by simp; omega) ?_; intro v8 w4 hrow4 hgrow4 hnil4 hloc4; replace hgrow4 : (w2.alloc (.cells #[.int .i64 k] 3)).grownBy w4 u5.ownBlock := hgrow4; replace hloc4 : v8.ownBlock = u5.ownBlock \/ v8.ownBlock = some (w2.alloc (.cells #[.int .i64 k] 3)).heap.size := hloc4; clear hnil4; have hs4 := hgrow4.size; simp at hs4; have hB4 : Below w.heap.size w w4 := (hBw2.alloc hBw2.size _).grown hgrow4 (by simp; omega) (fun j hj => (hrow2.lt j hj).1); obtain ⟨hq74, hsep⟩ := YG hq72 hgrow4 hloc4 hb7 HI.out.2)
     | (go_at_fn g; refine (hstep _ hB4).mono ?_; rintro e5 w5 ⟨v9, rfl, hB5, hq9⟩; have hq75 := OQ hq74 hB5; have hs55 : w.heap.size <= w5.heap.size := Nat.le_trans hB4.size hB5.size)
     | go_in)
    go_roundg m
    case measure => omega
    case rel => exact ⟨out ++ [k], t ++ r, hA.out⟩
theorem Tf (ps : List aF) (k : Int) (r : List Int) (h : fA ps k = some r) (w : World) (ha : amb w) (S : Nat -> Nat -> Prop) (v : Value) (hr : Rep w S (.list (.base .part) ps) v) (hS : ∀ b o, S b o -> b < w.heap.size) :
  Calls Tryz.prog 81 #[v, .int .i64 k] w fun e w' => ∃ v, e = .returned v /\ Below w.heap.size w w' /\ kM w' w.heap.size v r := by
 refine (qw w S [v, .int .i64 k] (ps, k) r h ha ⟨⟨hr, trivial⟩, ⟨Rep.int _ _, trivial⟩⟩ hS).mono ?_
 rintro e w' ⟨v, rfl, hB, us, rfl, fps, hr, hf, _⟩
 rcases us with _ | ⟨u, _ | ⟨u2, r⟩⟩
 ·exact hr.elim
 ·exact ⟨_, rfl, hB, VR hr.1 fun c hc => (hf _ c hc).1⟩
 ·exact hr.elim
set_option maxRecDepth 100000 in
theorem Td (ps : List aF) (w : World) (ha : amb w) (S : Nat -> Nat -> Prop) (v : Value) (hr : Rep w S (.list (.base .part) ps) v) (hS : ∀ b o, S b o -> b < w.heap.size) (T : TypeId) :
  Step 163 #[.pointer (some ⟨w.heap.size, 0, none⟩)] (fA ps) (w.alloc (.cells #[v] T (0, 0))) where
 enters := enters_of Tryz.func163 (by kernel_rfl) rfl
 call := fun k r h w' hB => by
  have hB0 : Below w.heap.size w (w.alloc (.cells #[v] T (0, 0))) := (Below.refl _ _).alloc (Nat.le_refl _) _
  have hB2 := hB0.trans (hB.mono hB0.size)
  have hs : (w.alloc (.cells #[v] T (0, 0))).heap.size = w.heap.size + 1 := by simp
  have e1 : w'.heap[w.heap.size]? = some (.cells #[v] T (0, 0)) := (hB.block _ (by omega)).trans (heap_alloc_new w _)
  have c1 := cell_of_one e1
  have hgo := Tf ps k r h w' (amb.keep ha hB2.size fun k hk => hB2.block k (Nat.lt_of_lt_of_le hk ha.size)) S v (hr.move fun b o hs => ⟨hs, hB2.cell (hS b o hs)⟩) (fun b o hs => Nat.lt_of_lt_of_le (hS b o hs) hB2.size)
  clear ha hr hS h hB hB0 hB2 hs e1
  show Calls _ _ #[.int .i64 k, .pointer (some ⟨w.heap.size, 0, none⟩)] _ _
  go_enter Tryz.func163, Tryz.ntmps163
  go_wp2_with (go_at_call 81; refine hgo.mono ?_; rintro e w2 ⟨v2, rfl, hB2, hq⟩; have HQ : Hid (Below w'.heap.size w' w2 /\ kM w2 w'.heap.size v2 r) := ⟨hB2, hq⟩; clear hB2 hq)
  go_ret
  exact ⟨_, rfl, HQ.out⟩
set_option maxRecDepth 100000 in
theorem JF : Sound Tryz.prog Vb := by
 intro w S args x y h ha hr hS
 rcases args with _ | ⟨v, _ | ⟨u, _ | ⟨u2, r⟩⟩⟩
 ·exact hr.elim
 ·exact hr.2.elim
 ·obtain ⟨ps, b⟩ := x
  have h : sH ps b = some y := h
  unfold sH at h
  obtain ⟨r0, g1, h⟩ := zB.1 h
  obtain ⟨res, g2, h⟩ := zB.1 h
  obtain ⟨h1, h2, rfl⟩ := EQ h
  have hu : u = .int .i64 b := lV hr.2.1
  subst hu
  obtain ⟨vp, vn, vc, rfl⟩ := oJ hr.1.1
  have hst := fun T => Td ps w ha S _ hr.1.1 hS T
  have hB0 : ∀ T, Below w.heap.size w (w.alloc (.cells #[.slice vp vn vc] T (0, 0))) := fun T => (Below.refl _ _).alloc (Nat.le_refl _) _
  have hgo : ∀ T, Calls Tryz.prog 162 #[.int .i64 b, .func (.func 163) #[] #[.pointer (some ⟨w.heap.size, 0, none⟩)]] (w.alloc (.cells #[.slice vp vn vc] T (0, 0))) fun e w' => iD res w e w' := fun T =>
   (UA (hst T) (amb.keep ha (hB0 T).size fun k hk => (hB0 T).block k (Nat.lt_of_lt_of_le hk ha.size)) b r0 res g1 g2 h1 h2).mono fun e w' h => iD.lift h (hB0 T)
  refine Calls.mono (R := fun e w' => iD res w e w') ?_ fun e w' h => MH h
  clear hr hS h hst hB0 g1 g2 ha
  show Calls _ _ #[.slice vp vn vc, .int .i64 b] _ _
  go_enter Tryz.func114, Tryz.ntmps114
  go_wp2_with (go_at_call 162; go_loud (refine (hgo _).mono ?_); rintro e w2 h2; obtain ⟨v2, rfl⟩ := iD.val h2; have H2 : Hid (iD res w _ w2) := h2; clear h2)
  go_ret
  exact H2.out
 ·exact hr.2.elim
end Go.Proofs.YtgfjbogcidlaeaaGreatDoor
