import Derived.Test.YtgfjbogcidlaeaaGreatDoorS4
/- Functions that write into the lists that they are given. -/
set_option linter.unusedSimpArgs false
set_option linter.unusedVariables false
namespace Go.Abs
open Go.RowKit
inductive Rf where
 | tree
 | box (off : Nat)
 | sub (off n : Nat) (agg : Bool)
 | elt (i sz off : Nat)
 | inner (i sz off : Nat)
structure Ms where
 S : St
 R : List (Option Rf)
 ds : List D
def Ms.getR (M : Ms) (i : Nat) : Option Rf := M.R.getD i none
def Ms.put (M : Ms) (d : Option Nat) (av : AV) : Ms := match d with
 | none => M
 | some d => { M with S := M.S.setT d av, R := M.R.set d none }
def Ms.list (M : Ms) : Option ((t : Ty) × List t.den) := match M.ds with
 | [.list t xs] => some ⟨t, xs⟩
 | _ => none
structure LM where
 n : Nat
 ty : Ty
 si : Nat
 sk : Nat
def intAt (M : Ms) (i : Nat) : Option Int := match M.S.getT i with
 | .v (.one (.d (.int .i64 n))) => some n
 | _ => none
def Rf.isTree : Option Rf -> Bool
 | some .tree => true
 | _ => false
def LM.get (la : LM) (M : Ms) : Option (List la.ty.den × Int × Int) :=
 if M.S.tmps.length = la.n /\ Rf.isTree (M.getR 0) = true /\ la.si ≠ 0 /\ la.sk ≠ 0 /\ la.si ≠ la.sk then
  match M.ds with
  | [.list ty xs] => if h : ty = la.ty then match intAt M la.si, intAt M la.sk with
   | some i, some k => some (h ▸ xs, i, k)
   | _, _ => none
   else none
  | _ => none
 else none
def LM.put (la : LM) (x : List la.ty.den × Int × Int) : Ms :=
 {S := { tmps := ((List.replicate la.n AV.undef).set la.si (.v (.one (.d (.int .i64 x.2.1))))).set la.sk (.v (.one (.d (.int .i64 x.2.2))))
         boxes := List.replicate la.n none
         owns := List.replicate la.n [] }
  R := (List.replicate la.n none).set 0 (some .tree)
  ds := [.list la.ty x.1] }
section
variable {P : Program} {o : Oper} {a : Act} {w : World} {K : Act -> World -> Prop} {Q : Exit -> Act -> World -> Prop}
end
def gK (K : Nat -> Nat -> Prop) : Gh := { bk := fun _ => 0, ov := fun _ _ => undef, ow := fun _ => none, S := K, lk := fun _ => False, lb := fun _ => False }
theorem Inv.rebase {b0 : Bs} {G : Gh} {S : St} {a : Act} {w : World} (h : Inv b0 G S a w) (no : ∀ k, S.getO k = [] /\ S.getB k = none) {w' : World} {K' : Nat -> Nat -> Prop} (hK : ∀ b o, G.S b o -> K' b o /\ w'.cell? ⟨b, o, none⟩ = w.cell? ⟨b, o, none⟩)
  (hlt : ∀ b o, K' b o -> b < w'.heap.size) : Inv ⟨w', K', fun _ => False, none⟩ (gK K') S a w' := by
 have hm : Mv G (gK K') w w' := ⟨hK, fun k hk => absurd (no k).1 (h.lk k hk), fun i hi => absurd (no i).2 (h.lb i hi)⟩
 refine ⟨OffB.refl _ _ _, h.nodef, h.tsz, h.bsz, h.osz, fun i v hv => (h.tmps i v hv).move hm, fun b x hx => (by cases hx), fun b o hs => ⟨hlt b o hs, fun i e => (by cases e)⟩, fun i cs hcs => ?_, fun k j => ?_, fun k hk => hk.elim, fun i hi => hi.elim, fun b o hs _ => hs, fun b hb => by cases hb⟩
 ·rw [(no i).2] at hcs; cases hcs
 ·rw [(no k).1]; trivial
structure Gm where
 u : Value
 vs : List Value
 fps : Nat -> Nat -> Prop
def Gm.F (g : Gm) (c : Nat) : Prop := ∃ i, g.fps i c
def Kw (g : Gm) (w : World) (b _ : Nat) : Prop := b < w.heap.size /\ ¬ g.F b
def isSl : Value -> Bool
 | .slice _ _ _ => true
 | _ => false
def RfOk (g : Gm) (agg : Bool) (w : World) : Rf -> Value -> Prop
 | .tree, v => v = g.u
 | .box off, v => ∃ bb, v = .pointer (some ⟨bb, off, none⟩) /\ ¬ g.F bb /\ bb < w.heap.size /\ ∀ j x, g.vs[j]? = some x -> w.cell? ⟨bb, j, none⟩ = some x
 | .sub off n ag, v => (ag = true -> v = .agg (seg g.vs off n).toArray) /\ (ag = false -> seg g.vs off n = [v])
 | .elt i sz off, v => agg = false /\ ∃ b len cap, g.u = .slice (some ⟨b, 0, none⟩) len cap /\ v = .pointer (some ⟨b, i * sz + off, none⟩)
 | .inner i sz off, v => agg = false /\ isSl v = true /\ ∃ b len cap, g.u = .slice (some ⟨b, 0, none⟩) len cap /\ w.cell? ⟨b, i * sz + off, none⟩ = some v
def OwD (w : World) (d : D) (v : Value) (fp : Nat -> Prop) : Prop := Ow w (fun _ _ => False) true d v fp
structure InvM (w0 : World) (agg : Bool) (g : Gm) (M : Ms) (a : Act) (w : World) : Prop where
 off : Off g.F w0 w
 inv : Inv ⟨w, Kw g w, fun _ => False, none⟩ (gK (Kw g w)) M.S a w
 no : ∀ k, M.S.getO k = [] /\ M.S.getB k = none
 rsz : M.R.length = M.S.tmps.length
 tree : CellsR (fun i d v => OwD w d v (g.fps i)) 0 M.ds g.vs
 uv : (agg = true -> g.u = .agg g.vs.toArray) /\ (agg = false -> g.vs = [g.u])
 refs : ∀ i r v, M.getR i = some r -> a.tmps[i]? = some v -> RfOk g agg w r v
 lt : ∀ i c, g.fps i c -> c < w0.heap.size
 am : amb w0 /\ ∀ i c, g.fps i c -> ambN <= c
 dis : ∀ i i' c, g.fps i c -> g.fps i' c -> i = i'
theorem OffB.step {F : Nat -> Prop} {a b c : World} (h : Off F a b) (k : Off F b c) : Off F a c :=
 ⟨k.os.trans h.os, k.tape.trans h.tape, k.output.trans h.output, Nat.le_trans h.size k.size, fun i hi hf => (k.block i (Nat.lt_of_lt_of_le hi h.size) hf).trans (h.block i hi hf)⟩
theorem OffB.mono {F F' : Nat -> Prop} {w w' : World} (h : Off F w w') (hF : ∀ c, F c -> F' c) : Off F' w w' := ⟨h.os, h.tape, h.output, h.size, fun k hk hn => h.block k hk fun hf => hn (hF k hf)⟩
section sound
variable {P : Program} {w0 : World} {agg : Bool} {g : Gm} {M : Ms} {a : Act} {w : World} {o : Oper} {K : Act -> World -> Prop} {Q : Exit -> Act -> World -> Prop} {E : Env}
theorem RfOk.move {w' : World} {r : Rf} {v : Value} (h : RfOk g agg w r v) (hsz : w.heap.size <= w'.heap.size) (hb : ∀ c, c < w.heap.size -> ¬ g.F c -> w'.heap[c]? = w.heap[c]?)
  (hs : agg = false -> ∀ b len cap, g.u = .slice (some ⟨b, 0, none⟩) len cap -> ∀ o u, isSl u = true -> w.cell? ⟨b, o, none⟩ = some u -> w'.cell? ⟨b, o, none⟩ = some u) : RfOk g agg w' r v := by
 cases r with
 | tree => exact h
 | box off =>
  obtain ⟨bb, h1, h2, h3, h4⟩ := h
  exact ⟨bb, h1, h2, by omega, fun j x hx => (World.cell?_of_block (w := w) (hb bb h3 h2)).trans (h4 j x hx)⟩
 | sub off n ag => exact h
 | elt i sz off => exact h
 | inner i sz off =>
  obtain ⟨h1, h2, b, len, cap, h3, h4⟩ := h
  exact ⟨h1, h2, b, len, cap, h3, hs h1 b len cap h3 _ _ h2 h4⟩
theorem getR_set (R : List (Option Rf)) (S S' : St) (ds ds' : List D) (d : Nat) (x : Option Rf) (i : Nat) : Ms.getR { S := S, R := R.set d x, ds := ds } i = if d = i /\ d < R.length then x else Ms.getR { S := S', R := R, ds := ds' } i := by
 simp only [Ms.getR, List.getD_eq_getElem?_getD, List.getElem?_set]
 by_cases h : d = i
 ·subst h
  by_cases hl : d < R.length <;> simp [hl]
 ·simp [h]
theorem InvM.put (h : InvM w0 agg g M a w) {d : Option Nat} {av : AV} {v : Value} (hv : AVRep (gK (Kw g w)) w av v) : InvM w0 agg g (M.put d av) (a.put d v) w := by
 cases d with
 | none => exact h
 | some d =>
  refine ⟨h.off, h.inv.setT d hv, h.no, by simp [Ms.put, St.setT, h.rsz], h.tree, h.uv, fun i r u hr hu => ?_, h.lt, h.am, h.dis⟩
  simp only [Ms.put] at hr
  rw [getR_set (S' := M.S) (ds' := M.ds)] at hr
  split at hr
  ·cases hr
  ·rename_i hd
   simp only [Act.put, Array.getElem?_setIfInBounds] at hu
   by_cases hdi : d = i
   ·subst hdi
    have : ¬ d < M.R.length := fun hl => hd ⟨rfl, hl⟩
    simp only [if_true] at hu
    rw [h.rsz, <- h.inv.tsz] at this
    rw [if_neg this] at hu
    cases hu
   ·rw [if_neg hdi] at hu
    exact h.refs i r u hr hu
theorem InvM.turn (h : InvM w0 agg g M a w) {w' : World} {ds' : List D} (hoff : Off g.F w w') (ht : CellsR (fun i d v => OwD w' d v (g.fps i)) 0 ds' g.vs)
  (hs : agg = false -> ∀ b len cap, g.u = .slice (some ⟨b, 0, none⟩) len cap -> ∀ o u, isSl u = true -> w.cell? ⟨b, o, none⟩ = some u -> w'.cell? ⟨b, o, none⟩ = some u) : InvM w0 agg g { M with ds := ds' } a w' := by
 refine ⟨h.off.step hoff, h.inv.rebase h.no (fun b oo hb => ⟨⟨Nat.lt_of_lt_of_le hb.1 hoff.size, hb.2⟩, World.cell?_of_block (w := w) (hoff.block b hb.1 hb.2)⟩) fun b oo hb => hb.1, h.no, h.rsz, ht, h.uv, fun i r v hr hv => ?_, h.lt, h.am, h.dis⟩
 exact (h.refs i r v hr hv).move hoff.size (fun c hc hf => hoff.block c hc hf) hs
theorem InvM.amb (h : InvM w0 agg g M a w) : amb w :=
 h.am.1.keep h.off.size fun k hk => h.off.block k (Nat.lt_of_lt_of_le hk h.am.1.size) fun ⟨i, hf⟩ => by have := h.am.2 i k hf; omega
end sound
end Go.Abs
namespace Go.Abs
open Go.RowKit
theorem setSeg_get {α : Type} {cs vs : List α} {off : Nat} (h : off + vs.length <= cs.length) (i : Nat) : (setSeg cs off vs)[i]? = if off <= i /\ i < off + vs.length then vs[i - off]? else cs[i]? := by
 simp only [setSeg, List.getElem?_append, List.length_append, List.length_take, List.getElem?_take, List.getElem?_drop]
 have e : min off cs.length = off := by omega
 rw [e]
 by_cases h1 : i < off
 ·rw [if_pos (by omega), if_pos h1, if_pos h1, if_neg (by omega)]
 ·by_cases h2 : i < off + vs.length
  ·rw [if_pos h2, if_neg h1, if_pos (by omega)]
  ·rw [if_neg h2, if_neg (by omega)]
   congr 1; omega
theorem OwD.inv {w : World} {ty : Ty} {xs : List ty.den} {b len cap : Nat} {fp : Nat -> Prop} (h : OwD w (.list ty xs) (.slice (some ⟨b, 0, none⟩) len cap) fp) :
  ∃ (arr : Array Value) (E : TypeId) (vs : Nat -> Nat -> Value) (fps : Nat -> Nat -> Nat -> Prop), len = xs.length /\ w.heap[b]? = some (.cells arr E (0, 0)) /\ xs.length <= cap /\ cap <= maxLen /\ arr.size = cap * ty.size /\ fp b /\
   (∀ (i : Nat) (x : ty.den) (j : Nat) (d : D), xs[i]? = some x -> (ty.cells x)[j]? = some d -> arr[i * ty.size + j]? = some (vs i j)) /\
   (∀ (i : Nat) (x : ty.den) (j : Nat) (d : D), xs[i]? = some x -> (ty.cells x)[j]? = some d -> OwD w d (vs i j) (fps i j)) /\
   (∀ i j c, fps i j c -> fp c /\ c ≠ b) /\ (∀ i j i' j' c, fps i j c -> fps i' j' c -> i = i' /\ j = j') := by
 unfold OwD at h
 generalize hdd : D.list ty xs = dd at h
 generalize hvv : Value.slice (some ⟨b, 0, none⟩) len cap = vv at h
 cases h with
 | int => cases hdd
 | bool => cases hdd
 | str => cases hdd
 | nil t' => cases hvv
 | ro _ _ _ hd => cases hd
 | list t' xs' b' cap' arr E vs fps _ hb hcap hmax hsz hfb hc hr hfp hdis =>
  cases hdd
  cases hvv
  exact ⟨arr, E, vs, fps, rfl, hb, hcap, hmax, hsz, hfb, hc, hr, hfp, hdis⟩
theorem OwD.slice {w : World} {ty : Ty} {xs : List ty.den} {v : Value} {fp : Nat -> Prop} (h : OwD w (.list ty xs) v fp) : isSl v = true := by
 unfold OwD at h
 generalize hdd : D.list ty xs = dd at h
 cases h with
 | int => cases hdd
 | bool => cases hdd
 | str => cases hdd
 | nil t' => rfl
 | ro _ _ _ hd => cases hd
 | list => rfl
theorem OwD.scalar {w : World} {d : D} {v : Value} {fp : Nat -> Prop} (h : OwD w d v fp) (hd : tyOfD d = none) : isSl v = false := by
 unfold OwD at h
 cases h with
 | int => rfl
 | bool => rfl
 | str => rfl
 | nil t' => cases hd
 | ro _ _ _ hd => cases hd
 | list => cases hd
theorem OwD.turn {w w' : World} {ty : Ty} {xs : List ty.den} {b cap : Nat} {fp : Nat -> Prop} {arr arr' : Array Value} {E : TypeId} {vs vs' : Nat -> Nat -> Value} {fps : Nat -> Nat -> Nat -> Prop}
  (hcap : xs.length <= cap) (hmax : cap <= maxLen) (hsz : arr.size = cap * ty.size) (hfb : fp b)
  (hc : ∀ (i : Nat) (x : ty.den) (j : Nat) (d : D), xs[i]? = some x -> (ty.cells x)[j]? = some d -> arr[i * ty.size + j]? = some (vs i j))
  (hr : ∀ (i : Nat) (x : ty.den) (j : Nat) (d : D), xs[i]? = some x -> (ty.cells x)[j]? = some d -> OwD w d (vs i j) (fps i j))
  (hf : ∀ i j c, fps i j c -> fp c /\ c ≠ b) (hdis : ∀ i j i' j' c, fps i j c -> fps i' j' c -> i = i' /\ j = j')
  (hb' : w'.heap[b]? = some (.cells arr' E (0, 0))) (hsz' : arr'.size = arr.size) {i off : Nat} {y y' : ty.den} {d' : D} (hy : xs[i]? = some y) (hy' : ty.cells y' = setSeg (ty.cells y) off [d']) (hoff : off < ty.size)
  (hsame : ∀ i' j', ¬ (i' = i /\ j' = off) -> vs' i' j' = vs i' j') (harr : ∀ i' j', j' < ty.size -> ¬ (i' = i /\ j' = off) -> arr'[i' * ty.size + j']? = arr[i' * ty.size + j']?)
  (harr0 : arr'[i * ty.size + off]? = some (vs' i off)) (hnew : OwD w' d' (vs' i off) (fps i off)) (hrows : ∀ i' j' c, ¬ (i' = i /\ j' = off) -> fps i' j' c -> w'.heap[c]? = w.heap[c]?) :
  OwD w' (.list ty (xs.set i y')) (.slice (some ⟨b, 0, none⟩) xs.length cap) fp := by
 have hil : i < xs.length := (List.getElem?_eq_some_iff.1 hy).1
 have hcl : ∀ z : ty.den, (ty.cells z).length = ty.size := fun z => Ty.cells_length ty z
 have old : ∀ (i' : Nat) (x : ty.den) (j' : Nat) (d : D), (xs.set i y')[i']? = some x -> (ty.cells x)[j']? = some d -> j' < ty.size /\ ((i' = i /\ j' = off /\ d = d') \/ (¬ (i' = i /\ j' = off) /\ ∃ x0, xs[i']? = some x0 /\ (ty.cells x0)[j']? = some d)) := by
  intro i' x j' d hx hd
  have hj : j' < ty.size := by have := (List.getElem?_eq_some_iff.1 hd).1; rwa [hcl] at this
  refine ⟨hj, ?_⟩
  rw [List.getElem?_set] at hx
  by_cases hii : i = i'
  ·subst hii
   rw [if_pos rfl, if_pos hil] at hx
   cases hx
   rw [hy', setSeg_get (by rw [hcl]; simp; omega)] at hd
   by_cases hjo : j' = off
   ·subst hjo
    rw [if_pos ⟨Nat.le_refl _, by simp⟩] at hd
    simp at hd
    exact .inl ⟨rfl, rfl, hd.symm⟩
   ·rw [if_neg (by simp; omega)] at hd
    exact .inr ⟨fun e => hjo e.2, y, hy, hd⟩
  ·rw [if_neg hii] at hx
   exact .inr ⟨fun e => hii e.1.symm, x, hx, hd⟩
 have e : xs.length = (xs.set i y').length := by simp
 rw [e]
 refine Ow.list ty (xs.set i y') b cap arr' E vs' fps fp hb' (by simpa using hcap) hmax (hsz'.trans hsz) hfb (fun i' x j' d hx hd => ?_) (fun i' x j' d hx hd => ?_) hf hdis
 ·obtain ⟨hj, h | ⟨hn, x0, hx0, hd0⟩⟩ := old i' x j' d hx hd
  ·obtain ⟨rfl, rfl, _⟩ := h; exact harr0
  ·rw [harr i' j' hj hn, hsame i' j' hn]; exact hc i' x0 j' d hx0 hd0
 ·obtain ⟨hj, h | ⟨hn, x0, hx0, hd0⟩⟩ := old i' x j' d hx hd
  ·obtain ⟨rfl, rfl, rfl⟩ := h; exact hnew
  ·rw [hsame i' j' hn]
   exact Ow.move (hr i' x0 j' d hx0 hd0) (fun _ _ hh => hh.elim) fun c hcc => hrows i' j' c hn hcc
section sound
variable {P : Program} {w0 : World} {agg : Bool} {g : Gm} {M : Ms} {a : Act} {w : World} {o : Oper} {K : Act -> World -> Prop} {Q : Exit -> Act -> World -> Prop} {E : Env}
theorem InvM.grow (h : InvM w0 agg g M a w) {w' : World} (hbel : Below w.heap.size w w') : InvM w0 agg g M a w' := by
 have hF : ∀ c, g.F c -> c < w.heap.size := fun c ⟨i, hc⟩ => Nat.lt_of_lt_of_le (h.lt i c hc) h.off.size
 refine h.turn (ds' := M.ds) (.ofBelow hbel (Nat.le_refl _)) (h.tree.imp fun i d v hw => Ow.move hw (fun _ _ hh => hh.elim) fun b hb => hbel.block b (hF b ⟨i, hb⟩)) fun _ b len cap hu' oo x _ hx => ?_
 have hb : b < w.heap.size := by
  unfold World.cell? at hx
  cases hh : w.heap[b]? with
  | none => simp [hh] at hx
  | some _ => exact (Array.getElem?_eq_some_iff.1 hh).1
 rw [World.cell?_of_block (w := w) (hbel.block b hb)]; exact hx
end sound
end Go.Abs
namespace Go.Abs
open Go.RowKit
section sound
variable {P : Program} {w0 : World} {agg : Bool} {g : Gm} {M : Ms} {a : Act} {w : World} {o : Oper} {K : Act -> World -> Prop} {Q : Exit -> Act -> World -> Prop} {E : Env}
end sound
end Go.Abs
namespace Go.Abs
open Go.RowKit
section sound
variable {P : Program} {w0 : World} {agg : Bool} {g : Gm} {M : Ms} {a : Act} {w : World} {o : Oper} {K : Act -> World -> Prop} {Q : Exit -> Act -> World -> Prop} {E : Env}
end sound
end Go.Abs
