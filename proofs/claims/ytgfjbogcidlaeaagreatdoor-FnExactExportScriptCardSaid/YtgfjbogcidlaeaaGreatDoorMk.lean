import Derived.Test.YtgfjbogcidlaeaaGreatDoorS4
/- Functions that write into the lists that they are given. -/
set_option linter.unusedSimpArgs false
set_option linter.unusedVariables false
namespace Go.Abs
open Go.RowKit
inductive Rf where
 | tree
 | box (off : Nat)
 | sub (off n : Nat) (agg : Bool)
 | elt (i sz off : Nat)
 | inner (i sz off : Nat)
structure Ms where
 S : St
 R : List (Option Rf)
 ds : List D
def Ms.LK (M : Ms) (i : Nat) : Option Rf := M.R.getD i none
def Ms.rf (M : Ms) : Operand -> Option Rf
 | .tmp t => M.LK t
 | _ => none
def Ms.put (M : Ms) (d : Option Nat) (av : AV) : Ms := match d with
 | none => M
 | some d => { M with S := M.S.fU d av, R := M.R.set d none }
def Ms.rE (M : Ms) (d : Option Nat) (r : Rf) : Ms := match d with
 | none => M
 | some d => { M with S := M.S.fU d .undef, R := M.R.set d (some r) }
def Ms.list (M : Ms) : Option ((t : Ty) × List t.den) := match M.ds with
 | [.list t xs] => some ⟨t, xs⟩
 | _ => none
def SV {ρ : Type} (E : Env) (o : Oper) (M : Ms) (k : Ms -> Option ρ) : Option ρ :=
 (eff E o).runK M.S fun ws => match ws with
  | [.t d v] => if o.dst = some d then k (M.put o.dst v) else none
  | [] => if o.dst = none then k M else none
  | _ => none
def Ec {ρ : Type} (E : Env) (agg : Bool) (o : Oper) (M : Ms) (k : Ms -> Option ρ) : Option ρ :=
 match o.op with
 | .move x | .assign x => match M.rf x with
  | some r => k (M.rE o.dst r)
  | none => SV E o M k
 | .box _ x => match M.rf x with
  | some .tree => if agg then k (M.rE o.dst (.box 0)) else none
  | _ => none
 | .fieldAddr s p f => match (lk E.tt.fields s).bind (·[f]?) with
  | none => none
  | some (fo, _, _) => match M.rf p with
   | some (.box off) => k (M.rE o.dst (.box (off + fo)))
   | some (.elt i sz off) => k (M.rE o.dst (.elt i sz (off + fo)))
   | _ => none
 | .load t p => match lk E.tt.shape t with
  | none => none
  | some (agg', n) => match M.rf p with
   | some (.box off) => if off + n <= M.ds.length /\ (agg' = true \/ n = 1) then k (M.rE o.dst (.sub off n agg')) else none
   | some (.elt i sz off) => match agg', n, M.ds with
    | false, 1, [.list ty xs] => if ty.size = sz then (xs[i]?).bind fun x => match (ty.cells x)[off]? with
      | some (.list _ _) => k (M.rE o.dst (.inner i sz off))
      | _ => none
     else none
    | _, _, _ => none
   | _ => none
 | .indexAddr T x i => match lk E.tt.elem T, M.rf x, M.ds with
  | some t, some .tree, [.list ty xs] => if agg = false /\ t = ty then ((dn i).bind CS).runK M.S fun n => (idx xs n).bind fun _ => k (M.rE o.dst (.elt n.toNat ty.size 0)) else none
  | _, _, _ => none
 | .store t p x => match lk E.tt.shape t, M.rf p, M.ds with
  | some (false, 1), some (.elt i sz off), [.list ty xs] => if ty.size = sz /\ off < ty.size then ((dn x).bind avD).runK M.S fun d => (xs[i]?).bind fun y =>
    match (ty.cells y)[off]?, ji d with
    | some d0, none => if (ji d0).isNone then (ty.dJ (bT (ty.cells y) off [d])).bind fun y' => k { M.put o.dst (.tup []) with ds := [.list ty (xs.set i y')] } else none
    | _, _ => none
   else none
  | _, _, _ => none
 | .call c => match c.callee with
  | .builtin .len => match c.args.toList, c.argTypes.toList with
   | [x], [T] => match M.rf x with
    | some .tree => match M.ds, lk E.tt.elem T with
     | [.list _ xs], some _ => if agg = false then k (M.put o.dst (.v (.one (.d (.int .i64 xs.length))))) else none
     | _, _ => none
    | _ => SV E o M k
   | _, _ => none
  | .value (.func f) => match E.ms.find? (fun m => m.fid == f) with
   | some m => match c.args.toList with
    | [x, y] => ((dn y).bind avD).runK M.S fun
     | .int .i64 n => match M.rf x with
      | some (.sub off cnt agg') => if agg = true /\ m.sh.agg = agg' /\ m.sh.t.size = cnt /\ off + cnt <= M.ds.length then
        (m.sh.t.dJ (seg M.ds off cnt)).bind fun z => (m.fn z n).bind fun r => k { M.put o.dst (.v (.one (.d (.int .i64 r.2)))) with ds := bT M.ds off (m.sh.t.cells r.1) }
       else none
      | some (.inner i sz off) => match M.ds with
       | [.list ty xs] => if ty.size = sz /\ m.sh.agg = false /\ m.sh.t.size = 1 /\ off < ty.size then (xs[i]?).bind fun y =>
         (m.sh.t.dJ (seg (ty.cells y) off 1)).bind fun z => (m.fn z n).bind fun r =>
          (ty.dJ (bT (ty.cells y) off (m.sh.t.cells r.1))).bind fun y' => k { M.put o.dst (.v (.one (.d (.int .i64 r.2)))) with ds := [.list ty (xs.set i y')] }
        else none
       | _ => none
      | _ => none
     | _ => none
    | _ => none
   | none => SV E o M k
  | _ => SV E o M k
 | _ => SV E o M k
def abf {ρ : Type} (E : Env) (agg : Bool) : List Oper -> Ms -> (Ms -> Option ρ) -> Option ρ
 | [], M, k => k M
 | o :: r, M, k => match o.guard with
  | none => Ec E agg o M fun M => abf E agg r M k
  | some _ => none
structure LM where
 n : Nat
 ty : Ty
 si : Nat
 sk : Nat
def Wi (M : Ms) (i : Nat) : Option Int := match M.S.gq i with
 | .v (.one (.d (.int .i64 n))) => some n
 | _ => none
def Rf.ZI : Option Rf -> Bool
 | some .tree => true
 | _ => false
def LM.get (la : LM) (M : Ms) : Option (List la.ty.den × Int × Int) :=
 if M.S.tmps.length = la.n /\ Rf.ZI (M.LK 0) = true /\ la.si ≠ 0 /\ la.sk ≠ 0 /\ la.si ≠ la.sk then
  match M.ds with
  | [.list ty xs] => if h : ty = la.ty then match Wi M la.si, Wi M la.sk with
   | some i, some k => some (h ▸ xs, i, k)
   | _, _ => none
   else none
  | _ => none
 else none
def LM.put (la : LM) (x : List la.ty.den × Int × Int) : Ms :=
 {S := { tmps := ((List.replicate la.n AV.undef).set la.si (.v (.one (.d (.int .i64 x.2.1))))).set la.sk (.v (.one (.d (.int .i64 x.2.2))))
         boxes := List.replicate la.n none
         owns := List.replicate la.n [] }
  R := (List.replicate la.n none).set 0 (some .tree)
  ds := [.list la.ty x.1] }
noncomputable def LX (E : Env) (agg : Bool) (an : List (Nat × LM)) : Code -> {ρ : Type} -> Ms -> (Ex -> Ms -> Option ρ) -> Option ρ
 | .skip, _, M, k => k .normal M
 | .label _, _, M, k => k .normal M
 | .region _ ops false, _, M, k => abf E agg ops.toList M fun M => k .normal M
 | .seq a b, _, M, k => LX E agg an a M fun e M => match e with
  | .normal => LX E agg an b M k
  | e => k e M
 | .cond c a b, _, M, k => match c with
  | .tmp t => match M.S.gq t with
   | .v (.one (.d (.bool x))) => cond x (LX E agg an a M k) (LX E agg an b M k)
   | _ => none
  | _ => none
 | .block id c, _, M, k => LX E agg an c M fun e M => match e with
  | .exit i => if i = id then k .normal M else k (.exit i) M
  | e => k e M
 | .loop c, _, M, k => if agg then none else match (jT c).bind (lk an) with
  | none => none
  | some la => (la.get M).bind fun x0 => ah (fun x => LX E agg an c (la.put x) fun e M => match e with
    | .normal => (la.get M).bind fun y => some (.inl y)
    | e => (k e M).bind fun r => some (.inr r)) x0
 | .exit id, _, M, k => k (.exit id) M
 | .ret, _, M, k => k .ret M
 | _, _, _, _ => none
def adT (fn : Func) (sh : Sh) (M : Ms) : Option (sh.t.den × Int) := match fn.results.toList with
 | [.tmp t] => match M.S.gq t with
  | .v (.one (.d (.int .i64 n))) => (sh.t.dJ M.ds).bind fun y => some (y, n)
  | _ => none
 | _ => none
noncomputable def aak (E : Env) (an : List (Nat × LM)) (fn : Func) (sh : Sh) (x : sh.t.den) (n : Int) : Option (sh.t.den × Int) :=
 match fn.body with
 | none => none
 | some c => LX E sh.agg an c
  {S := { tmps := .undef :: .v (.one (.d (.int .i64 n))) :: List.replicate (fn.ntmps - 2) .undef
          boxes := List.replicate (2 + (fn.ntmps - 2)) none
          owns := List.replicate (2 + (fn.ntmps - 2)) [] }
   R := some .tree :: List.replicate (1 + (fn.ntmps - 2)) none
   ds := sh.t.cells x } fun e M => match e with
  | .exit _ => none
  | _ => adT fn sh M
section
variable {P : Program} {o : Oper} {a : Act} {w : World} {K : Act -> World -> Prop} {Q : Exit -> Act -> World -> Prop}
theorem adA (h : o.wp P a w K Q) : o.wp P a w (fun a' w' => K a' w' /\ ∃ v, a'.tmps = (a.put o.dst v).tmps) Q := by
 unfold Oper.wp at *
 generalize (execOp a.eval o).run P w = r at *
 cases r with
 | ok n w' =>
  cases n <;> simp only [Oper.upon] at h ⊢ <;>
   first
    | exact ⟨h, _, rfl⟩
    | exact ⟨h, undef, by unfold Act.put; split <;> rfl⟩
    | exact Calls.mono h (fun e w'' he => by cases e <;> first | exact ⟨he, _, rfl⟩ | exact he)
    | exact Rows.mono h (fun _ _ he => ⟨he, _, rfl⟩)
 | halt x w' => cases x <;> simp only [Oper.upon] at h ⊢ <;> exact h
end
def gK (K : Nat -> Nat -> Prop) : Gh := { bk := fun _ => 0, ov := fun _ _ => undef, ow := fun _ => none, S := K, lk := fun _ => False, lb := fun _ => False }
theorem Inv.Y4 {b0 : Bs} {G : Gh} {S : St} {a : Act} {w : World} (h : Inv b0 G S a w) (no : ∀ k, S.aC k = [] /\ S.dP k = none) {w' : World} {K' : Nat -> Nat -> Prop} (hK : ∀ b o, G.S b o -> K' b o /\ w'.cell? ⟨b, o, none⟩ = w.cell? ⟨b, o, none⟩)
  (hlt : ∀ b o, K' b o -> b < w'.heap.size) : Inv ⟨w', K', fun _ => False, none⟩ (gK K') S a w' := by
 have hm : Mv G (gK K') w w' := ⟨hK, fun k hk => absurd (no k).1 (h.lk k hk), fun i hi => absurd (no i).2 (h.lb i hi)⟩
 refine ⟨lS.refl _ _ _, h.nodef, h.tsz, h.bsz, h.osz, fun i v hv => (h.tmps i v hv).move hm, fun b x hx => (by cases hx), fun b o hs => ⟨hlt b o hs, fun i e => (by cases e)⟩, fun i cs hcs => ?_, fun k j => ?_, fun k hk => hk.elim, fun i hi => hi.elim, fun b o hs _ => hs, fun b hb => by cases hb⟩
 ·rw [(no i).2] at hcs; cases hcs
 ·rw [(no k).1]; trivial
structure Gm where
 u : Value
 vs : List Value
 fps : Nat -> Nat -> Prop
def Gm.F (g : Gm) (c : Nat) : Prop := ∃ i, g.fps i c
def Kw (g : Gm) (w : World) (b _ : Nat) : Prop := b < w.heap.size /\ ¬ g.F b
def ZJ : Value -> Bool
 | .slice _ _ _ => true
 | _ => false
def Vs (g : Gm) (agg : Bool) (w : World) : Rf -> Value -> Prop
 | .tree, v => v = g.u
 | .box off, v => ∃ bb, v = .pointer (some ⟨bb, off, none⟩) /\ ¬ g.F bb /\ bb < w.heap.size /\ ∀ j x, g.vs[j]? = some x -> w.cell? ⟨bb, j, none⟩ = some x
 | .sub off n ag, v => (ag = true -> v = .agg (seg g.vs off n).toArray) /\ (ag = false -> seg g.vs off n = [v])
 | .elt i sz off, v => agg = false /\ ∃ b len cap, g.u = .slice (some ⟨b, 0, none⟩) len cap /\ v = .pointer (some ⟨b, i * sz + off, none⟩)
 | .inner i sz off, v => agg = false /\ ZJ v = true /\ ∃ b len cap, g.u = .slice (some ⟨b, 0, none⟩) len cap /\ w.cell? ⟨b, i * sz + off, none⟩ = some v
def OwD (w : World) (d : D) (v : Value) (fp : Nat -> Prop) : Prop := Ow w (fun _ _ => False) true d v fp
structure gI (w0 : World) (agg : Bool) (g : Gm) (M : Ms) (a : Act) (w : World) : Prop where
 off : Off g.F w0 w
 inv : Inv ⟨w, Kw g w, fun _ => False, none⟩ (gK (Kw g w)) M.S a w
 no : ∀ k, M.S.aC k = [] /\ M.S.dP k = none
 rsz : M.R.length = M.S.tmps.length
 tree : aO (fun i d v => OwD w d v (g.fps i)) 0 M.ds g.vs
 uv : (agg = true -> g.u = .agg g.vs.toArray) /\ (agg = false -> g.vs = [g.u])
 refs : ∀ i r v, M.LK i = some r -> a.tmps[i]? = some v -> Vs g agg w r v
 lt : ∀ i c, g.fps i c -> c < w0.heap.size
 am : amb w0 /\ ∀ i c, g.fps i c -> oD <= c
 dis : ∀ i i' c, g.fps i c -> g.fps i' c -> i = i'
theorem lS.step {F : Nat -> Prop} {a b c : World} (h : Off F a b) (k : Off F b c) : Off F a c :=
 ⟨k.os.trans h.os, k.tape.trans h.tape, k.output.trans h.output, Nat.le_trans h.size k.size, fun i hi hf => (k.block i (Nat.lt_of_lt_of_le hi h.size) hf).trans (h.block i hi hf)⟩
theorem lS.mono {F F' : Nat -> Prop} {w w' : World} (h : Off F w w') (hF : ∀ c, F c -> F' c) : Off F' w w' := ⟨h.os, h.tape, h.output, h.size, fun k hk hn => h.block k hk fun hf => hn (hF k hf)⟩
section sound
variable {P : Program} {w0 : World} {agg : Bool} {g : Gm} {M : Ms} {a : Act} {w : World} {o : Oper} {K : Act -> World -> Prop} {Q : Exit -> Act -> World -> Prop} {E : Env}
theorem Vs.move {w' : World} {r : Rf} {v : Value} (h : Vs g agg w r v) (hsz : w.heap.size <= w'.heap.size) (hb : ∀ c, c < w.heap.size -> ¬ g.F c -> w'.heap[c]? = w.heap[c]?)
  (hs : agg = false -> ∀ b len cap, g.u = .slice (some ⟨b, 0, none⟩) len cap -> ∀ o u, ZJ u = true -> w.cell? ⟨b, o, none⟩ = some u -> w'.cell? ⟨b, o, none⟩ = some u) : Vs g agg w' r v := by
 cases r with
 | tree => exact h
 | box off =>
  obtain ⟨bb, h1, h2, h3, h4⟩ := h
  exact ⟨bb, h1, h2, by omega, fun j x hx => (World.cell?_of_block (w := w) (hb bb h3 h2)).trans (h4 j x hx)⟩
 | sub off n ag => exact h
 | elt i sz off => exact h
 | inner i sz off =>
  obtain ⟨h1, h2, b, len, cap, h3, h4⟩ := h
  exact ⟨h1, h2, b, len, cap, h3, hs h1 b len cap h3 _ _ h2 h4⟩
theorem JJ (R : List (Option Rf)) (S S' : St) (ds ds' : List D) (d : Nat) (x : Option Rf) (i : Nat) : Ms.LK { S := S, R := R.set d x, ds := ds } i = if d = i /\ d < R.length then x else Ms.LK { S := S', R := R, ds := ds' } i := by
 simp only [Ms.LK, zE, List.getElem?_set]
 by_cases h : d = i
 ·subst h
  by_cases hl : d < R.length <;> simp [hl]
 ·simp [h]
theorem gI.put (h : gI w0 agg g M a w) {d : Option Nat} {av : AV} {v : Value} (hv : iE (gK (Kw g w)) w av v) : gI w0 agg g (M.put d av) (a.put d v) w := by
 cases d with
 | none => exact h
 | some d =>
  refine ⟨h.off, h.inv.fU d hv, h.no, by simp [Ms.put, St.fU, h.rsz], h.tree, h.uv, fun i r u hr hu => ?_, h.lt, h.am, h.dis⟩
  simp only [Ms.put] at hr
  rw [JJ (S' := M.S) (ds' := M.ds)] at hr
  split at hr
  ·cases hr
  ·rename_i hd
   simp only [Act.put, Array.getElem?_setIfInBounds] at hu
   by_cases hdi : d = i
   ·subst hdi
    have : ¬ d < M.R.length := fun hl => hd ⟨rfl, hl⟩
    simp only [if_true] at hu
    rw [h.rsz, <- h.inv.tsz] at this
    rw [if_neg this] at hu
    cases hu
   ·rw [if_neg hdi] at hu
    exact h.refs i r u hr hu
theorem gI.rE (h : gI w0 agg g M a w) {d : Option Nat} {rr : Rf} {v : Value} (hv : Vs g agg w rr v) : gI w0 agg g (M.rE d rr) (a.put d v) w := by
 cases d with
 | none => exact h
 | some d =>
  refine ⟨h.off, h.inv.fU d (av := .undef) trivial, h.no, by simp [Ms.rE, St.fU, h.rsz], h.tree, h.uv, fun i r u hr hu => ?_, h.lt, h.am, h.dis⟩
  simp only [Ms.rE] at hr
  rw [JJ (S' := M.S) (ds' := M.ds)] at hr
  simp only [Act.put, Array.getElem?_setIfInBounds] at hu
  split at hr
  ·rename_i hd
   cases hr
   obtain ⟨rfl, hl⟩ := hd
   rw [h.rsz, <- h.inv.tsz] at hl
   simp only [if_true, hl] at hu
   cases hu
   exact hv
  ·rename_i hd
   by_cases hdi : d = i
   ·subst hdi
    have : ¬ d < M.R.length := fun hl => hd ⟨rfl, hl⟩
    simp only [if_true] at hu
    rw [h.rsz, <- h.inv.tsz] at this
    rw [if_neg this] at hu
    cases hu
   ·rw [if_neg hdi] at hu
    exact h.refs i r u hr hu
theorem gI.turn (h : gI w0 agg g M a w) {w' : World} {ds' : List D} (hoff : Off g.F w w') (ht : aO (fun i d v => OwD w' d v (g.fps i)) 0 ds' g.vs)
  (hs : agg = false -> ∀ b len cap, g.u = .slice (some ⟨b, 0, none⟩) len cap -> ∀ o u, ZJ u = true -> w.cell? ⟨b, o, none⟩ = some u -> w'.cell? ⟨b, o, none⟩ = some u) : gI w0 agg g { M with ds := ds' } a w' := by
 refine ⟨h.off.step hoff, h.inv.Y4 h.no (fun b oo hb => ⟨⟨Nat.lt_of_lt_of_le hb.1 hoff.size, hb.2⟩, World.cell?_of_block (w := w) (hoff.block b hb.1 hb.2)⟩) fun b oo hb => hb.1, h.no, h.rsz, ht, h.uv, fun i r v hr hv => ?_, h.lt, h.am, h.dis⟩
 exact (h.refs i r v hr hv).move hoff.size (fun c hc hf => hoff.block c hc hf) hs
theorem gI.amb (h : gI w0 agg g M a w) : amb w :=
 h.am.1.keep h.off.size fun k hk => h.off.block k (Nat.lt_of_lt_of_le hk h.am.1.size) fun ⟨i, hf⟩ => by have := h.am.2 i k hf; omega
theorem pM {ρ : Type} {r : ρ} (hE : dY P E) (h : gI w0 agg g M a w) {k : Ms -> Option ρ} (hv : SV E o M k = some r)
  (hK : ∀ M' a' w', k M' = some r -> gI w0 agg g M' a' w' -> K a' w') : o.wp P a w K Q := by
 unfold SV at hv
 rw [Rd.iF, zB] at hv
 obtain ⟨ws, h1, h2⟩ := hv
 have key : ∀ a' w' G', Inv ⟨w, Kw g w, fun _ => False, none⟩ G' (M.S.puts ws) a' w' -> (∃ v, a'.tmps = (a.put o.dst v).tmps) -> K a' w' := by
  intro a' w' G' h3 hput
  obtain ⟨u, hu⟩ := hput
  have hbel := h3.below.FU fun _ hf => hf
  have hF : ∀ c, g.F c -> c < w.heap.size := fun c ⟨i, hc⟩ => Nat.lt_of_lt_of_le (h.lt i c hc) h.off.size
  have hS : ∀ b oo, G'.S b oo -> Kw g w' b oo /\ w'.cell? ⟨b, oo, none⟩ = w'.cell? ⟨b, oo, none⟩ := fun b oo hs => by
   refine ⟨⟨(h3.sok b oo hs).1, fun hf => ?_⟩, rfl⟩
   exact (h3.sfr b oo hs (hF b hf)).2 hf
  have no' : ∀ k, (M.S.puts ws).aC k = [] /\ (M.S.puts ws).dP k = none := by
   split at h2
   ·exact h.no
   ·exact h.no
   ·cases h2
  have h4 := h3.Y4 no' hS fun b oo hb => hb.1
  have htree : aO (fun i d v => OwD w' d v (g.fps i)) 0 M.ds g.vs := h.tree.imp fun i d v hw => Ow.move hw (fun _ _ hh => hh.elim) fun b hb => hbel.block b (hF b ⟨i, hb⟩)
  have hrf : ∀ i rr v, M.LK i = some rr -> a.tmps[i]? = some v -> Vs g agg w' rr v := fun i rr v hr hv =>
   (h.refs i rr v hr hv).move hbel.size (fun c hc _ => hbel.block c hc) fun _ b len cap hu' oo x _ hx => by
    have hb : b < w.heap.size := by
     unfold World.cell? at hx
     cases hh : w.heap[b]? with
     | none => simp [hh] at hx
     | some _ => exact (Array.getElem?_eq_some_iff.1 hh).1
    rw [World.cell?_of_block (w := w) (hbel.block b hb)]; exact hx
  split at h2
  ·rename_i d v
   split at h2
   case isFalse => cases h2
   rename_i hd
   rw [hd] at h2 hu
   refine hK _ a' w' h2 ⟨h.off.step (.FZ hbel (Nat.le_refl _)), h4, h.no, by simp [Ms.put, St.fU, h.rsz], htree, h.uv, fun i rr v' hr hv' => ?_, h.lt, h.am, h.dis⟩
   simp only [Ms.put] at hr
   rw [JJ (S' := M.S) (ds' := M.ds)] at hr
   split at hr
   ·cases hr
   ·rename_i hdd
    rw [hu] at hv'
    simp only [Act.put, Array.getElem?_setIfInBounds] at hv'
    by_cases hdi : d = i
    ·subst hdi
     have : ¬ d < M.R.length := fun hl => hdd ⟨rfl, hl⟩
     simp only [if_true] at hv'
     rw [h.rsz, <- h.inv.tsz] at this
     rw [if_neg this] at hv'
     cases hv'
    ·rw [if_neg hdi] at hv'
     exact hrf i rr v' hr hv'
  ·split at h2
   case isFalse => cases h2
   rename_i hd
   rw [hd] at hu
   exact hK _ a' w' h2 ⟨h.off.step (.FZ hbel (Nat.le_refl _)), h4, h.no, h.rsz, htree, h.uv, fun i rr v' hr hv' => hrf i rr v' hr (by rw [hu] at hv'; exact hv'), h.lt, h.am, h.dis⟩
  ·cases h2
 have := adA (Nr (K := fun a' w' => ∃ G', Inv ⟨w, Kw g w, fun _ => False, none⟩ G' (M.S.puts ws) a' w') (Q := Q) h.inv (hE.at (.none h.amb)) h1 fun a' w' G' h3 => ⟨G', h3⟩)
 exact Oper.wp_mono (fun a' w' ⟨⟨G', h3⟩, hp⟩ => key a' w' G' h3 hp) this
end sound
end Go.Abs
namespace Go.Abs
open Go.RowKit
theorem aO.mk' {R : Nat -> D -> Value -> Prop} : ∀ {n : Nat} {ds : List D} {vs : List Value}, ds.length = vs.length -> (∀ (i : Nat) (d : D) (v : Value), ds[i]? = some d -> vs[i]? = some v -> R (n + i) d v) -> aO R n ds vs
 | n, [], [], _, _ => trivial
 | n, d :: ds, v :: vs, hl, h => ⟨h 0 d v rfl rfl, aO.mk' (by simpa using hl) fun i d' v' hd hv => by
   have := h (i + 1) d' v' (by simpa using hd) (by simpa using hv)
   rw [show n + 1 + i = n + (i + 1) by omega]; exact this⟩
theorem FW {α : Type} {cs : List α} {off n j : Nat} {x : α} (h : (seg cs off n)[j]? = some x) : j < n /\ cs[off + j]? = some x := by
 simp only [seg, List.getElem?_take, List.getElem?_drop] at h
 split at h
 ·rename_i hj; exact ⟨hj, h⟩
 ·cases h
theorem Ol {α : Type} {cs : List α} {off n : Nat} (h : off + n <= cs.length) : (seg cs off n).length = n := by
 simp [seg]; omega
theorem zq {α : Type} {cs vs : List α} {off : Nat} (h : off + vs.length <= cs.length) (i : Nat) : (bT cs off vs)[i]? = if off <= i /\ i < off + vs.length then vs[i - off]? else cs[i]? := by
 simp only [bT, List.getElem?_append, List.length_append, List.length_take, List.getElem?_take, List.getElem?_drop]
 have e : min off cs.length = off := by omega
 rw [e]
 by_cases h1 : i < off
 ·rw [if_pos (by omega), if_pos h1, if_pos h1, if_neg (by omega)]
 ·by_cases h2 : i < off + vs.length
  ·rw [if_pos h2, if_neg h1, if_pos (by omega)]
  ·rw [if_neg h2, if_neg (by omega)]
   congr 1; omega
theorem OwD.inv {w : World} {ty : Ty} {xs : List ty.den} {b len cap : Nat} {fp : Nat -> Prop} (h : OwD w (.list ty xs) (.slice (some ⟨b, 0, none⟩) len cap) fp) :
  ∃ (arr : Array Value) (E : TypeId) (vs : Nat -> Nat -> Value) (fps : Nat -> Nat -> Nat -> Prop), len = xs.length /\ w.heap[b]? = some (.cells arr E (0, 0)) /\ xs.length <= cap /\ cap <= maxLen /\ arr.size = cap * ty.size /\ fp b /\
   (∀ (i : Nat) (x : ty.den) (j : Nat) (d : D), xs[i]? = some x -> (ty.cells x)[j]? = some d -> arr[i * ty.size + j]? = some (vs i j)) /\
   (∀ (i : Nat) (x : ty.den) (j : Nat) (d : D), xs[i]? = some x -> (ty.cells x)[j]? = some d -> OwD w d (vs i j) (fps i j)) /\
   (∀ i j c, fps i j c -> fp c /\ c ≠ b) /\ (∀ i j i' j' c, fps i j c -> fps i' j' c -> i = i' /\ j = j') := by
 unfold OwD at h
 generalize hdd : D.list ty xs = dd at h
 generalize hvv : Value.slice (some ⟨b, 0, none⟩) len cap = vv at h
 cases h with
 | int => cases hdd
 | bool => cases hdd
 | str => cases hdd
 | nil t' => cases hvv
 | ro _ _ _ hd => cases hd
 | list t' xs' b' cap' arr E vs fps _ hb hcap hmax hsz hfb hc hr hfp hdis =>
  cases hdd
  cases hvv
  exact ⟨arr, E, vs, fps, rfl, hb, hcap, hmax, hsz, hfb, hc, hr, hfp, hdis⟩
theorem OwD.slice {w : World} {ty : Ty} {xs : List ty.den} {v : Value} {fp : Nat -> Prop} (h : OwD w (.list ty xs) v fp) : ZJ v = true := by
 unfold OwD at h
 generalize hdd : D.list ty xs = dd at h
 cases h with
 | int => cases hdd
 | bool => cases hdd
 | str => cases hdd
 | nil t' => rfl
 | ro _ _ _ hd => cases hd
 | list => rfl
theorem OwD.scalar {w : World} {d : D} {v : Value} {fp : Nat -> Prop} (h : OwD w d v fp) (hd : ji d = none) : ZJ v = false := by
 unfold OwD at h
 cases h with
 | int => rfl
 | bool => rfl
 | str => rfl
 | nil t' => cases hd
 | ro _ _ _ hd => cases hd
 | list => cases hd
theorem OwD.turn {w w' : World} {ty : Ty} {xs : List ty.den} {b cap : Nat} {fp : Nat -> Prop} {arr arr' : Array Value} {E : TypeId} {vs vs' : Nat -> Nat -> Value} {fps : Nat -> Nat -> Nat -> Prop}
  (hcap : xs.length <= cap) (hmax : cap <= maxLen) (hsz : arr.size = cap * ty.size) (hfb : fp b)
  (hc : ∀ (i : Nat) (x : ty.den) (j : Nat) (d : D), xs[i]? = some x -> (ty.cells x)[j]? = some d -> arr[i * ty.size + j]? = some (vs i j))
  (hr : ∀ (i : Nat) (x : ty.den) (j : Nat) (d : D), xs[i]? = some x -> (ty.cells x)[j]? = some d -> OwD w d (vs i j) (fps i j))
  (hf : ∀ i j c, fps i j c -> fp c /\ c ≠ b) (hdis : ∀ i j i' j' c, fps i j c -> fps i' j' c -> i = i' /\ j = j')
  (hb' : w'.heap[b]? = some (.cells arr' E (0, 0))) (hsz' : arr'.size = arr.size) {i off : Nat} {y y' : ty.den} {d' : D} (hy : xs[i]? = some y) (hy' : ty.cells y' = bT (ty.cells y) off [d']) (hoff : off < ty.size)
  (hsame : ∀ i' j', ¬ (i' = i /\ j' = off) -> vs' i' j' = vs i' j') (harr : ∀ i' j', j' < ty.size -> ¬ (i' = i /\ j' = off) -> arr'[i' * ty.size + j']? = arr[i' * ty.size + j']?)
  (harr0 : arr'[i * ty.size + off]? = some (vs' i off)) (hnew : OwD w' d' (vs' i off) (fps i off)) (hrows : ∀ i' j' c, ¬ (i' = i /\ j' = off) -> fps i' j' c -> w'.heap[c]? = w.heap[c]?) :
  OwD w' (.list ty (xs.set i y')) (.slice (some ⟨b, 0, none⟩) xs.length cap) fp := by
 have hil : i < xs.length := (zC.1 hy).1
 have hcl : ∀ z : ty.den, (ty.cells z).length = ty.size := fun z => Ty.aQ ty z
 have old : ∀ (i' : Nat) (x : ty.den) (j' : Nat) (d : D), (xs.set i y')[i']? = some x -> (ty.cells x)[j']? = some d -> j' < ty.size /\ ((i' = i /\ j' = off /\ d = d') \/ (¬ (i' = i /\ j' = off) /\ ∃ x0, xs[i']? = some x0 /\ (ty.cells x0)[j']? = some d)) := by
  intro i' x j' d hx hd
  have hj : j' < ty.size := by have := (zC.1 hd).1; rwa [hcl] at this
  refine ⟨hj, ?_⟩
  rw [List.getElem?_set] at hx
  by_cases hii : i = i'
  ·subst hii
   rw [if_pos rfl, if_pos hil] at hx
   cases hx
   rw [hy', zq (by rw [hcl]; simp; omega)] at hd
   by_cases hjo : j' = off
   ·subst hjo
    rw [if_pos ⟨Nat.le_refl _, by simp⟩] at hd
    simp at hd
    exact .inl ⟨rfl, rfl, hd.symm⟩
   ·rw [if_neg (by simp; omega)] at hd
    exact .inr ⟨fun e => hjo e.2, y, hy, hd⟩
  ·rw [if_neg hii] at hx
   exact .inr ⟨fun e => hii e.1.symm, x, hx, hd⟩
 have e : xs.length = (xs.set i y').length := by simp
 rw [e]
 refine Ow.list ty (xs.set i y') b cap arr' E vs' fps fp hb' (by simpa using hcap) hmax (hsz'.trans hsz) hfb (fun i' x j' d hx hd => ?_) (fun i' x j' d hx hd => ?_) hf hdis
 ·obtain ⟨hj, h | ⟨hn, x0, hx0, hd0⟩⟩ := old i' x j' d hx hd
  ·obtain ⟨rfl, rfl, _⟩ := h; exact harr0
  ·rw [harr i' j' hj hn, hsame i' j' hn]; exact hc i' x0 j' d hx0 hd0
 ·obtain ⟨hj, h | ⟨hn, x0, hx0, hd0⟩⟩ := old i' x j' d hx hd
  ·obtain ⟨rfl, rfl, rfl⟩ := h; exact hnew
  ·rw [hsame i' j' hn]
   exact Ow.move (hr i' x0 j' d hx0 hd0) (fun _ _ hh => hh.elim) fun c hcc => hrows i' j' c hn hcc
section sound
variable {P : Program} {w0 : World} {agg : Bool} {g : Gm} {M : Ms} {a : Act} {w : World} {o : Oper} {K : Act -> World -> Prop} {Q : Exit -> Act -> World -> Prop} {E : Env}
theorem gI.rf (h : gI w0 agg g M a w) {x : Operand} {r : Rf} (hr : M.rf x = some r) : Vs g agg w r (a.eval x) := by
 unfold Ms.rf at hr
 split at hr
 ·rename_i t
  have hl : t < a.tmps.size := by
   rw [h.inv.tsz, <- h.rsz]
   rcases Nat.lt_or_ge t M.R.length with hl | hl
   ·exact hl
   ·simp [Ms.LK, zE, zJ hl] at hr
  have : a.tmps[t]? = some (a.eval (.tmp t)) := by
   show a.tmps[t]? = some (a.tmps.getD t undef)
   simp [hl]
  exact h.refs t r _ hr this
 ·cases hr
theorem gI.grow (h : gI w0 agg g M a w) {w' : World} (hbel : Below w.heap.size w w') : gI w0 agg g M a w' := by
 have hF : ∀ c, g.F c -> c < w.heap.size := fun c ⟨i, hc⟩ => Nat.lt_of_lt_of_le (h.lt i c hc) h.off.size
 refine h.turn (ds' := M.ds) (.FZ hbel (Nat.le_refl _)) (h.tree.imp fun i d v hw => Ow.move hw (fun _ _ hh => hh.elim) fun b hb => hbel.block b (hF b ⟨i, hb⟩)) fun _ b len cap hu' oo x _ hx => ?_
 have hb : b < w.heap.size := by
  unfold World.cell? at hx
  cases hh : w.heap[b]? with
  | none => simp [hh] at hx
  | some _ => exact (Array.getElem?_eq_some_iff.1 hh).1
 rw [World.cell?_of_block (w := w) (hbel.block b hb)]; exact hx
theorem gI.Rx (h : gI w0 agg g M a w) (hag : agg = false) {ty : Ty} {xs : List ty.den} (hds : M.ds = [.list ty xs]) : OwD w (.list ty xs) g.u (g.fps 0) := by
 have := h.tree
 rw [hds, h.uv.2 hag] at this
 exact this.1
theorem gI.vlen (h : gI w0 agg g M a w) : M.ds.length = g.vs.length := h.tree.get.1
theorem EF {T : TT} (hT : T.ok P = true) {s : TypeId} {p : Operand} {f fo : Nat} {ag : Bool} {n : Nat} (ho : o.op = .fieldAddr s p f) (hf : (lk T.fields s).bind (·[f]?) = some (fo, ag, n)) {b off : Nat} (hp : a.eval p = .pointer (some ⟨b, off, none⟩)) :
  (execOp a.eval o).run P w = .ok (.value (.pointer (some ⟨b, off + fo, none⟩))) w := by
 obtain ⟨F, fd, d, i, hu, hF, hoff, hdu, hi, _, hsz, hpos⟩ := TT.JM hT hf
 have hne : i.size ≠ 0 := by omega
 unfold execOp
 simp only [ho, hp, Instr.fieldAt, Sem.run_bind, run_underlying hu, Result.andThen_ok, hF, Instr.sureAddr, Sem.run_pure, fieldPlace, sizeOf, typeInfo, run_program, hi]
 simp [hne, hoff, addr_add]
theorem Ie {T : TT} (hT : T.ok P = true) {t : TypeId} {p : Operand} (ho : o.op = .load t p) {ag : Bool} {n : Nat} (hs : lk T.shape t = some (ag, n)) {b off : Nat} (hp : a.eval p = .pointer (some ⟨b, off, none⟩)) {ls : List Value} (hl : ls.length = n)
  (hc : ∀ j v, ls[j]? = some v -> w.cell? ⟨b, off + j, none⟩ = some v) : (ag = true -> (execOp a.eval o).run P w = .ok (.value (.agg ls.toArray)) w) /\ (ag = false -> ∀ v, ls = [v] -> (execOp a.eval o).run P w = .ok (.value v) w) := by
 obtain ⟨d, i, hu, hi, hsz, hd⟩ := TT.qQ hT hs
 refine ⟨fun e => ?_, fun e v hv => ?_⟩
 ·have := jV (w := w) t b off d i hu hi (by rw [hd]; exact e) ls (by omega) hc
  unfold execOp
  simp only [ho, hp, Instr.loadAt, Instr.sureAddr, Sem.run_bind, Sem.run_pure, Result.andThen_ok, this]
 ·subst hv
  have := ny (w := w) t b off d hu (by rw [hd]; exact e) v (hc 0 v rfl)
  unfold execOp
  simp only [ho, hp, Instr.loadAt, Instr.sureAddr, Sem.run_bind, Sem.run_pure, Result.andThen_ok, this]
theorem Ye {ρ : Type} {r : ρ} (hE : dY P E) (h : gI w0 agg g M a w) {t : TypeId} {p : Operand} (ho : o.op = .load t p) {k : Ms -> Option ρ} (hv : Ec E agg o M k = some r)
  (hK : ∀ M' a' w', k M' = some r -> gI w0 agg g M' a' w' -> K a' w') : o.wp P a w K Q := by
 unfold Ec at hv
 rw [ho] at hv
 simp only at hv
 split at hv
 ·cases hv
 rename_i ag n hs
 split at hv
 ·rename_i off hr
  split at hv
  case isFalse => cases hv
  rename_i hg
  obtain ⟨bb, hp, hnF, hlt, hcell⟩ := h.rf hr
  have hvl := h.vlen
  have hsl : (seg g.vs off n).length = n := Ol (by omega)
  obtain ⟨r1, r2⟩ := Ie hE.1 ho hs hp (ls := seg g.vs off n) hsl (fun j v hj => hcell _ _ (FW hj).2)
  cases ag with
  | true => exact aJ (r1 rfl) (hK _ _ _ hv (h.rE ⟨fun _ => rfl, fun e => by cases e⟩))
  | false =>
   have hn : n = 1 := by rcases hg.2 with e | e; cases e; exact e
   subst hn
   obtain ⟨v, hv1⟩ := List.length_eq_one_iff.1 hsl
   exact aJ (r2 rfl v hv1) (hK _ _ _ hv (h.rE ⟨fun e => (by cases e), fun _ => hv1⟩))
 ·rename_i i sz off hr
  split at hv
  case h_2 => cases hv
  rename_i ag' n' ty xs hds
  split at hv
  case isFalse => cases hv
  rename_i hsz
  rw [zB] at hv
  obtain ⟨x, hx, hv⟩ := hv
  split at hv
  case h_2 => cases hv
  rename_i t' xs' hd
  obtain ⟨hag, b, len, cap, hu, hp⟩ := h.rf hr
  have hO := h.Rx hag hds
  rw [hu] at hO
  obtain ⟨arr, Et, vs, fps, rfl, hb, hcap, hmax, hasz, hfb, hc, hrr, hf, hdis⟩ := hO.inv
  have hcell : w.cell? ⟨b, i * sz + off, none⟩ = some (vs i off) := by
   rw [cell_of_row w _ _ _ _ _ hb, <- hsz]; exact hc i x off _ hx hd
  obtain ⟨r1, r2⟩ := Ie hE.1 ho hs hp (ls := [vs i off]) rfl (fun j v hj => by
   cases j with
   | zero => simp at hj; subst hj; exact hcell
   | succ j => simp at hj)
  exact aJ (r2 rfl _ rfl) (hK _ _ _ hv (h.rE ⟨hag, (hrr i x off _ hx hd).slice, b, _, cap, hu, hcell⟩))
 ·cases hv
theorem Vh {ρ : Type} {r : ρ} (hE : dY P E) (h : gI w0 agg g M a w) {t : TypeId} {p x : Operand} (ho : o.op = .store t p x) {k : Ms -> Option ρ} (hv : Ec E agg o M k = some r)
  (hK : ∀ M' a' w', k M' = some r -> gI w0 agg g M' a' w' -> K a' w') : o.wp P a w K Q := by
 unfold Ec at hv
 rw [ho] at hv
 simp only at hv
 split at hv
 case h_2 => cases hv
 rename_i i sz off ty xs hs hr hds
 split at hv
 case isFalse => cases hv
 rename_i hg
 obtain ⟨hsz, hoff⟩ := hg
 rw [Rd.iF, zB] at hv
 obtain ⟨d, h1, hv⟩ := hv
 rw [Rd.ak, zB] at h1
 obtain ⟨av, h1, h2⟩ := h1
 rw [zB] at hv
 obtain ⟨y, hy, hv⟩ := hv
 split at hv
 case h_2 => cases hv
 rename_i d0 hd0 hdt
 split at hv
 case isFalse => cases hv
 rename_i hd0t
 rw [zB] at hv
 obtain ⟨y', hy', hv⟩ := hv
 obtain ⟨hag, b, len, cap, hu, hp⟩ := h.rf hr
 have hO := h.Rx hag hds
 rw [hu] at hO
 obtain ⟨arr, Et, vs, fps, rfl, hb, hcap, hmax, hasz, hfb, hc, hrr, hf, hdis⟩ := hO.inv
 obtain ⟨dd, ti, htu, hti, htsz, htd⟩ := TT.qQ hE.1 hs
 have hrx := jW h2 (aS h.inv h1)
 generalize hxv : a.eval x = xv at hrx
 have hone := hrx.one
 have hil : i < xs.length := (zC.1 hy).1
 have hcl : (ty.cells y).length = ty.size := Ty.aQ ty y
 have hidx : i * ty.size + off < arr.size := by
  rw [hasz]
  have : (i + 1) * ty.size <= cap * ty.size := Nat.mul_le_mul_right _ (by omega)
  rw [Nat.succ_mul] at this
  omega
 let arr' : Array Value := (bT arr.toList (i * sz + off) [xv]).toArray
 have hlen' : i * sz + off + [xv].length <= arr.toList.length := by simp; rw [<- hsz]; omega
 have harr : ∀ q, arr'[q]? = if q = i * ty.size + off then some xv else arr[q]? := by
  intro q
  simp only [arr', List.getElem?_toArray]
  rw [zq hlen', <- hsz]
  by_cases hq : q = i * ty.size + off
  ·subst hq; simp
  ·rw [if_neg (by simp; omega), if_neg hq]; simp
 have hsr := setRow_heap w b arr arr' Et (0, 0) hb
 have hoth : ∀ c, c ≠ b -> (w.setRow b arr').heap[c]? = w.heap[c]? := fun c hcb => setRow_other w b c _ hcb
 have hbF : g.F b := ⟨0, hfb⟩
 have hOff : Off g.F w (w.setRow b arr') := ⟨rfl, rfl, rfl, by simp, fun c _ hnf => hoth c fun e => hnf (e ▸ hbF)⟩
 have hnew : OwD (w.setRow b arr') d xv (fps i off) := by
  have hrx' : Rep w (gK (Kw g w)).S d xv := hrx
  cases hrx' with
  | int kk n => exact .int kk n _
  | bool bb => exact .bool bb _
  | str s => exact .str s _
  | nil => cases hdt
  | emp => cases hdt
  | list => cases hdt
 have hcy : ty.cells y' = bT (ty.cells y) off [d] := Ty.bV hy'
 have hT' : OwD (w.setRow b arr') (.list ty (xs.set i y')) (.slice (some ⟨b, 0, none⟩) xs.length cap) (g.fps 0) :=
  OwD.turn (w := w) (vs := vs) (vs' := fun i' j' => if i' = i /\ j' = off then xv else vs i' j') hcap hmax hasz hfb hc hrr hf hdis hsr (by simp [arr']; rw [qG _ _ _ hlen']; simp) hy hcy hoff
   (fun i' j' hn => if_neg hn) (fun i' j' hj hn => by
    rw [harr, if_neg]
    intro e
    exact hn (L9 hj hoff e))
   (by rw [harr, if_pos rfl]; simp) (by simpa using hnew) (fun i' j' c hn hcc => hoth c (hf i' j' c hcc).2)
 have hrun : (storeVar t ⟨b, i * sz + off, none⟩ (a.eval x)).run P w = .ok () (w.setRow b arr') := by
  rw [hxv]
  exact tZ hti hb (vs := [xv]) (CO hone) (by simp [htsz]) (by simp; rw [<- hsz]; omega) (fun u hu => by simp at hu; rw [hu]; exact hone)
 refine zk (uj ho hp hrun) (hK _ _ _ hv ?_)
 have h3 : gI w0 agg g { M with ds := [.list ty (xs.set i y')] } a (w.setRow b arr') := by
  refine h.turn hOff ?_ fun _ b' len cap' hu' oo v hsl hcv => ?_
  ·rw [h.uv.2 hag, hu]
   exact ⟨hT', trivial⟩
  ·rw [hu] at hu'
   cases hu'
   rw [cell_of_row w _ _ _ _ _ hb] at hcv
   rw [cell_of_row _ _ _ _ _ _ hsr, harr]
   split
   ·rename_i hq
    subst hq
    rw [hc i y off d0 hy hd0] at hcv
    cases hcv
    have := (hrr i y off d0 hy hd0).scalar (by simpa using hd0t)
    rw [this] at hsl; cases hsl
   ·exact hcv
 have h4 := h3.put (d := o.dst) (av := .tup []) (v := undef) xJ
 have e : { M.put o.dst (.tup []) with ds := [.list ty (xs.set i y')] } = Ms.put { M with ds := [.list ty (xs.set i y')] } o.dst (.tup []) := by
  cases o.dst <;> rfl
 rw [e]
 exact h4
end sound
end Go.Abs
namespace Go.Abs
open Go.RowKit
section sound
variable {P : Program} {w0 : World} {agg : Bool} {g : Gm} {M : Ms} {a : Act} {w : World} {o : Oper} {K : Act -> World -> Prop} {Q : Exit -> Act -> World -> Prop} {E : Env}
theorem abO {ρ : Type} {r : ρ} (hE : dY P E) (h : gI w0 agg g M a w) {c : Call} {f : FuncId} (ho : o.op = .call c) (hc : c.callee = .value (.func f)) {m : Msp} (hm : E.ms.find? (fun m => m.fid == f) = some m) {x y : Operand} (hxy : c.args.toList = [x, y])
  {k : Ms -> Option ρ} (hv : (((dn y).bind avD).runK M.S fun
        | .int .i64 n => match M.rf x with
         | some (.sub off cnt agg') => if agg = true /\ m.sh.agg = agg' /\ m.sh.t.size = cnt /\ off + cnt <= M.ds.length then
           (m.sh.t.dJ (seg M.ds off cnt)).bind fun z => (m.fn z n).bind fun r => k { M.put o.dst (.v (.one (.d (.int .i64 r.2)))) with ds := bT M.ds off (m.sh.t.cells r.1) }
          else none
         | some (.inner i sz off) => match M.ds with
          | [.list ty xs] => if ty.size = sz /\ m.sh.agg = false /\ m.sh.t.size = 1 /\ off < ty.size then (xs[i]?).bind fun y =>
            (m.sh.t.dJ (seg (ty.cells y) off 1)).bind fun z => (m.fn z n).bind fun r =>
             (ty.dJ (bT (ty.cells y) off (m.sh.t.cells r.1))).bind fun y' => k { M.put o.dst (.v (.one (.d (.int .i64 r.2)))) with ds := [.list ty (xs.set i y')] }
           else none
          | _ => none
         | _ => none
        | _ => none) = some r)
  (hK : ∀ M' a' w', k M' = some r -> gI w0 agg g M' a' w' -> K a' w') : o.wp P a w K Q := by
 obtain ⟨hcall, hM⟩ := hE.2.2.1 m (List.mem_of_find?_eq_some hm)
 have hfid : m.fid = f := by have := List.find?_some hm; simpa using this
 rw [Rd.iF, zB] at hv
 obtain ⟨d, h1, hv⟩ := hv
 rw [Rd.ak, zB] at h1
 obtain ⟨av, h1, h2⟩ := h1
 have hyr := jW h2 (aS h.inv h1)
 split at hv
 case h_2 => cases hv
 rename_i n
 have hyv : a.eval y = .int .i64 n := by
  generalize a.eval y = yv at hyr
  cases hyr; rfl
 have hargs : c.args.map a.eval = #[a.eval x, .int .i64 n] := by
  rw [jZ hxy]; simp [hyv]
 have hF : ∀ c, g.F c -> c < w.heap.size := fun c ⟨i, hc⟩ => Nat.lt_of_lt_of_le (h.lt i c hc) h.off.size
 have fin : ∀ {n' : Int} {ds' : List D} {w' : World}, gI w0 agg g { M with ds := ds' } a w' -> k { M.put o.dst (.v (.one (.d (.int .i64 n')))) with ds := ds' } = some r -> K (a.put o.dst (.int .i64 n')) w' := by
  intro n' ds' w' h3 h4
  have h5 := h3.put (d := o.dst) (av := .v (.one (.d (.int .i64 n')))) (v := .int .i64 n') (Rep.int _ _)
  refine hK _ _ _ h4 ?_
  have e : { M.put o.dst (.v (.one (.d (.int .i64 n')))) with ds := ds' } = Ms.put { M with ds := ds' } o.dst (.v (.one (.d (.int .i64 n')))) := by
   cases o.dst <;> rfl
  rw [e]
  exact h5
 unfold Oper.wp
 rw [jq ho hc (hfid ▸ hcall), hargs]
 subst hfid
 split at hv
 ·rename_i off cnt agg' hr
  split at hv
  case isFalse => cases hv
  rename_i hg
  obtain ⟨hag, hsa, hsz, hle⟩ := hg
  rw [zB] at hv
  obtain ⟨z, hz, hv⟩ := hv
  rw [zB] at hv
  obtain ⟨rr, hrr, hv⟩ := hv
  obtain ⟨s1, s2⟩ := h.rf hr
  have hcz : m.sh.t.cells z = seg M.ds off cnt := Ty.bV hz
  obtain ⟨tl, tg⟩ := h.tree.get
  let fps' : Nat -> Nat -> Prop := fun i c => i < cnt /\ g.fps (off + i) c
  have hsegR : aO (fun i d v => OwD w d v (fps' i)) 0 (seg M.ds off cnt) (seg g.vs off cnt) := by
   refine aO.mk' (by rw [Ol hle, Ol (by omega)]) fun i d v hd hv => ?_
   have := tg _ d v (FW hd).2 (FW hv).2
   rw [Nat.zero_add] at this ⊢
   exact Ow.sub this (fun c hc => ⟨(FW hd).1, hc⟩) fun e => e
  have hT : qA w m.sh z (a.eval x) fps' := by
   unfold qA ShR
   cases hs : m.sh.agg with
   | true => exact ⟨_, s1 (by rw [<- hsa, hs]), by rw [hcz]; exact hsegR⟩
   | false =>
    have := s2 (by rw [<- hsa, hs])
    rw [<- this, hcz]; exact hsegR
  refine Calls.mono (hM w (a.eval x) z n rr fps' hrr h.amb hT (fun i c hc => ⟨h.am.2 _ c hc.2, hF c ⟨_, hc.2⟩⟩) fun i i' c h1 h2 => by have := h.dis _ _ c h1.2 h2.2; omega) fun e w' he => ?_
  obtain ⟨rfl, hoff, hT'⟩ := he
  refine fin ?_ hv
  have hsegR' : aO (fun i d v => OwD w' d v (fps' i)) 0 (m.sh.t.cells rr.1) (seg g.vs off cnt) := by
   unfold qA ShR at hT'
   cases hs : m.sh.agg with
   | true =>
    rw [hs] at hT'
    obtain ⟨vs', e1, e2⟩ := hT'
    rw [s1 (by rw [<- hsa, hs])] at e1
    have : vs' = seg g.vs off cnt := by
     injection e1 with e1
     have := congrArg Array.toList e1
     simpa using this.symm
    rw [<- this]; exact e2
   | false =>
    rw [hs] at hT'
    rw [s2 (by rw [<- hsa, hs])]; exact hT'
  obtain ⟨sl, sg⟩ := hsegR'.get
  have hcl : (m.sh.t.cells rr.1).length = cnt := by rw [Ty.aQ, hsz]
  refine h.turn (hoff.mono fun c ⟨i, hc⟩ => ⟨_, hc.2⟩) ?_ fun e => by rw [hag] at e; cases e
  refine aO.mk' (by simp only [bT, List.length_append, List.length_take, List.length_drop, hcl]; omega) fun i d v hd hv => ?_
  rw [zq (by rw [hcl]; exact hle), hcl] at hd
  split at hd
  ·rename_i hin
   have hv' : (seg g.vs off cnt)[i - off]? = some v := by
    simp only [seg, List.getElem?_take, List.getElem?_drop]
    rw [if_pos (by omega), show off + (i - off) = i by omega]; exact hv
   have := sg _ d v hd hv'
   rw [Nat.zero_add] at this ⊢
   refine Ow.sub this (fun c hc => ?_) fun e => e
   have := hc.2
   rw [show off + (i - off) = i by omega] at this
   exact this
  ·rename_i hin
   have := tg i d v hd hv
   rw [Nat.zero_add] at this ⊢
   refine Ow.move this (fun _ _ hh => hh.elim) fun b hb => hoff.block b (hF b ⟨i, hb⟩) ?_
   rintro ⟨i', hi'⟩
   have e := h.dis _ _ b hb hi'.2
   have := hi'.1
   omega
 ·rename_i i sz off hr
  split at hv
  case h_2 => cases hv
  rename_i ty xs hds
  split at hv
  case isFalse => cases hv
  rename_i hg
  obtain ⟨hsz, hsa, hs1, hoffl⟩ := hg
  rw [zB] at hv
  obtain ⟨y0, hy0, hv⟩ := hv
  rw [zB] at hv
  obtain ⟨z, hz, hv⟩ := hv
  rw [zB] at hv
  obtain ⟨rr, hrr, hv⟩ := hv
  rw [zB] at hv
  obtain ⟨y', hy', hv⟩ := hv
  obtain ⟨hag, hsl, b, len, cap, hu, hcell⟩ := h.rf hr
  have hO := h.Rx hag hds
  rw [hu] at hO
  obtain ⟨arr, Et, vs, fps, rfl, hb, hcap, hmax, hasz, hfb, hc', hr', hf, hdis⟩ := hO.inv
  have hcl : (ty.cells y0).length = ty.size := Ty.aQ ty y0
  obtain ⟨d0, hd0⟩ : ∃ d0, (ty.cells y0)[off]? = some d0 := ⟨_, zF (by omega)⟩
  have hval : a.eval x = vs i off := by
   rw [cell_of_row w _ _ _ _ _ hb, <- hsz, hc' i y0 off d0 hy0 hd0] at hcell
   exact (Option.some.inj hcell).symm
  have hcz : m.sh.t.cells z = [d0] := by
   rw [Ty.bV hz]
   apply List.ext_getElem?
   intro q
   simp only [seg, List.getElem?_take, List.getElem?_drop]
   cases q with
   | zero => simpa using hd0
   | succ q => simp
  obtain ⟨d1, hd1⟩ : ∃ d1, m.sh.t.cells rr.1 = [d1] := List.length_eq_one_iff.1 (by rw [Ty.aQ, hs1])
  let fps' : Nat -> Nat -> Prop := fun q c => q = 0 /\ fps i off c
  have hT : qA w m.sh z (a.eval x) fps' := by
   unfold qA ShR
   rw [hsa, hcz, hval]
   exact ⟨Ow.sub (hr' i y0 off d0 hy0 hd0) (fun c hc => ⟨rfl, hc⟩) fun e => e, trivial⟩
  refine Calls.mono (hM w (a.eval x) z n rr fps' hrr h.amb hT (fun q c hc => ⟨h.am.2 _ c (hf _ _ _ hc.2).1, hF c ⟨0, (hf _ _ _ hc.2).1⟩⟩) fun q q' c h1 h2 => by rw [h1.1, h2.1]) fun e w' he => ?_
  obtain ⟨rfl, hoff, hT'⟩ := he
  refine fin ?_ hv
  have hnew : OwD w' d1 (vs i off) (fps i off) := by
   unfold qA ShR at hT'
   rw [hsa, hd1, hval] at hT'
   exact Ow.sub hT'.1 (fun c hc => hc.2) fun e => e
  have hbl : b < w.heap.size := hF b ⟨0, hfb⟩
  have hb' : w'.heap[b]? = w.heap[b]? := hoff.block b hbl fun ⟨q, hq⟩ => (hf _ _ _ hq.2).2 rfl
  have hOff : Off g.F w w' := hoff.mono fun c ⟨q, hq⟩ => ⟨0, (hf _ _ _ hq.2).1⟩
  refine h.turn hOff ?_ fun _ b' len cap' hu' oo v hsl' hcv => ?_
  ·rw [h.uv.2 hag, hu]
   refine ⟨OwD.turn (w := w) (vs := vs) (vs' := vs) hcap hmax hasz hfb hc' hr' hf hdis (hb'.trans hb) rfl hy0 (by rw [Ty.bV hy', hd1]) hoffl (fun _ _ _ => rfl) (fun _ _ _ _ => rfl) (hc' i y0 off d0 hy0 hd0) hnew
    (fun i' j' c hn hcc => hoff.block c (hF c ⟨0, (hf _ _ _ hcc).1⟩) fun ⟨q, hq⟩ => ?_), trivial⟩
   have := hdis _ _ _ _ _ hcc hq.2
   exact hn this
  ·rw [hu] at hu'
   cases hu'
   rw [World.cell?_of_block (w := w) hb']; exact hcv
 ·cases hv
end sound
end Go.Abs
namespace Go.Abs
open Go.RowKit
section sound
variable {P : Program} {w0 : World} {agg : Bool} {g : Gm} {M : Ms} {a : Act} {w : World} {o : Oper} {K : Act -> World -> Prop} {Q : Exit -> Act -> World -> Prop} {E : Env}
theorem Vj {ρ : Type} {r : ρ} (hE : dY P E) (h : gI w0 agg g M a w) {k : Ms -> Option ρ} (hv : Ec E agg o M k = some r)
  (hK : ∀ M' a' w', k M' = some r -> gI w0 agg g M' a' w' -> K a' w') : o.wp P a w K Q := by
 have mv : ∀ x, (o.op = .move x \/ o.op = .assign x) -> (match M.rf x with | some r => k (M.rE o.dst r) | none => SV E o M k) = some r -> o.wp P a w K Q := by
  intro x ho hv
  split at hv
  ·rename_i rr hr
   refine aJ (v := a.eval x) (w' := w) ?_ (hK _ _ _ hv (h.rE (h.rf hr)))
   rcases ho with ho | ho <;> (unfold execOp; simp only [ho]; rfl)
  ·exact pM hE h hv hK
 cases ho : o.op with
 | move x => unfold Ec at hv; rw [ho] at hv; exact mv x (.inl ho) hv
 | assign x => unfold Ec at hv; rw [ho] at hv; exact mv x (.inr ho) hv
 | box e x =>
  unfold Ec at hv
  rw [ho] at hv
  simp only at hv
  split at hv
  case h_2 => cases hv
  rename_i hr
  split at hv
  case isFalse => cases hv
  rename_i hag
  have hx : a.eval x = g.u := h.rf hr
  have hu := h.uv.1 hag
  have hbel : Below w.heap.size w (w.alloc (.cells g.vs.toArray e)) := (Below.refl _ _).alloc (Nat.le_refl _) _
  have hnew := heap_alloc_new w (.cells g.vs.toArray e)
  have hF : ∀ c, g.F c -> c < w.heap.size := fun c ⟨i, hc⟩ => Nat.lt_of_lt_of_le (h.lt i c hc) h.off.size
  refine aJ (v := .pointer (some ⟨w.heap.size, 0, none⟩)) (w' := w.alloc (.cells g.vs.toArray e)) ?_ (hK _ _ _ hv ((h.grow hbel).rE ⟨w.heap.size, rfl, fun hf => absurd (hF _ hf) (Nat.lt_irrefl _), by simp, fun j x hj => ?_⟩))
  ·unfold execOp
   simp [ho, Instr.box, newVar, newRow, hx, hu, Value.cells]
  ·rw [cell_of_row _ _ _ _ _ _ hnew]; simpa using hj
 | fieldAddr s p f =>
  unfold Ec at hv
  rw [ho] at hv
  simp only at hv
  split at hv
  ·cases hv
  rename_i fo ag n hf
  split at hv
  ·rename_i off hr
   obtain ⟨bb, hp, h2, h3, h4⟩ := h.rf hr
   exact aJ (EF hE.1 ho hf hp) (hK _ _ _ hv (h.rE ⟨bb, rfl, h2, h3, h4⟩))
  ·rename_i i sz off hr
   obtain ⟨hag, b, len, cap, hu, hp⟩ := h.rf hr
   exact aJ (EF hE.1 ho hf hp) (hK _ _ _ hv (h.rE ⟨hag, b, len, cap, hu, by rw [Nat.add_assoc]⟩))
  ·cases hv
 | load t p => exact Ye hE h ho hv hK
 | store t p x => exact Vh hE h ho hv hK
 | indexAddr T x i =>
  unfold Ec at hv
  rw [ho] at hv
  simp only at hv
  split at hv
  case h_2 => cases hv
  rename_i t ty xs ht hr hds
  split at hv
  case isFalse => cases hv
  rename_i hg
  obtain ⟨hag, rfl⟩ := hg
  rw [Rd.iF, zB] at hv
  obtain ⟨n, h1, hv⟩ := hv
  rw [Rd.ak, zB] at h1
  obtain ⟨av, h1, h2⟩ := h1
  rw [zB] at hv
  obtain ⟨y, hy, hv⟩ := hv
  obtain ⟨h0, hl, hxy⟩ := rU hy
  obtain ⟨e, inf, z, hu, hi, hsz, _⟩ := TT.gY hE.1 ht
  obtain ⟨kk, hn⟩ := oO h2 (aS h.inv h1)
  have hx : a.eval x = g.u := h.rf hr
  have hO := h.Rx hag hds
  have hsl : ∃ b cap, g.u = .slice (some ⟨b, 0, none⟩) xs.length cap := by
   unfold OwD at hO
   generalize g.u = uu at hO ⊢
   generalize hdd : D.list t xs = dd at hO
   cases hO with
   | int => cases hdd
   | bool => cases hdd
   | str => cases hdd
   | nil t' => cases hdd; simp at hl; omega
   | ro _ _ _ hd => cases hd
   | list t' xs' b' cap' => cases hdd; exact ⟨b', cap', rfl⟩
  obtain ⟨b, cap, hub⟩ := hsl
  have hrun := run_indexAt (w := w) T e inf hu hi b 0 xs.length cap kk n h0 hl
  rw [hsz, Nat.zero_add] at hrun
  refine aJ (v := .pointer (some ⟨b, n.toNat * t.size, none⟩)) (w' := w) ?_ (hK _ _ _ hv (h.rE ⟨hag, b, _, cap, hub, by simp⟩))
  unfold execOp
  simp [ho, hx, hub, hn, hrun]
 | call c =>
  unfold Ec at hv
  rw [ho] at hv
  simp only at hv
  split at hv
  ·rename_i hcc
   split at hv
   case h_2 => cases hv
   rename_i x T hx hT'
   split at hv
   ·rename_i hr
    split at hv
    case h_2 => cases hv
    rename_i ty xs t hds ht
    split at hv
    case isFalse => cases hv
    rename_i hag
    have hargs := lm hx
    have htys := lm hT'
    obtain ⟨e, _, _, hu, _⟩ := TT.gY hE.1 ht
    have hxu : a.eval x = g.u := h.rf hr
    have hO := h.Rx hag hds
    have hsl : ∃ ad cap, g.u = .slice ad xs.length cap := by
     unfold OwD at hO
     generalize g.u = uu at hO ⊢
     generalize hdd : D.list ty xs = dd at hO
     cases hO with
     | int => cases hdd
     | bool => cases hdd
     | str => cases hdd
     | nil t' => cases hdd; exact ⟨_, _, rfl⟩
     | ro _ _ _ hd => cases hd
     | list t' xs' b' cap' => cases hdd; exact ⟨_, _, rfl⟩
    obtain ⟨ad, cap, hub⟩ := hsl
    refine aJ (v := .int .i64 xs.length) (w' := w) ?_ (hK _ _ _ hv (h.put (av := .v (.one (.d (.int .i64 xs.length)))) (Rep.int _ _)))
    refine iJ ho hcc ?_
    simp [builtin, hargs, htys, hxu, hub, Builtin.len_, run_underlying hu, goInt]
   ·exact pM hE h hv hK
  ·rename_i f hcc
   split at hv
   ·rename_i m hm
    split at hv
    case h_2 => cases hv
    rename_i x y hxy
    exact abO hE h ho hcc hm hxy hv hK
   ·exact pM hE h hv hK
  ·exact pM hE h hv hK
 | _ => (unfold Ec at hv; rw [ho] at hv; exact pM hE h hv hK)
theorem IB {ρ : Type} {r : ρ} {ops : Array Oper} (hE : dY P E) {k : Ms -> Option ρ} (hQ : ∀ M' a' w', k M' = some r -> gI w0 agg g M' a' w' -> Q .normal a' w') :
  ∀ {l : List Oper} {i : Nat} {M : Ms} {a : Act} {w : World}, ops.toList.drop i = l -> abf E agg l M k = some r -> gI w0 agg g M a w -> wpOps P ops Q (List.range' i l.length) a w
 | [], i, M, a, w, _, hv, h => hQ M a w hv h
 | o :: l, i, M, a, w, hd, hv, h => by
  have hi : ops[i]? = some o := by
   have : (ops.toList.drop i)[0]? = some o := by rw [hd]; rfl
   rw [List.getElem?_drop] at this
   simpa using this
  have hd' : ops.toList.drop (i + 1) = l := by
   have := congrArg (List.drop 1) hd
   rw [List.drop_drop] at this
   simpa using this
  simp only [abf] at hv
  split at hv
  case h_2 => cases hv
  rename_i hg
  show wpOps P ops Q (i :: List.range' (i + 1) l.length) a w
  rw [wpOps_cons]
  unfold wpOp
  rw [hi]
  have hw : Region.wanted o (yielded ops a.tmps) = true := by unfold Region.wanted; rw [hg]
  simp only [hw]
  exact .inl (Vj hE h hv fun M' a' w' hv' h' => IB hE hQ hd' hv' h')
theorem LM.MX (h : gI w0 agg g M a w) {la : LM} {x : List la.ty.den × Int × Int} (hx : la.get M = some x) : gI w0 agg g (la.put x) a w := by
 unfold LM.get at hx
 split at hx
 case isFalse => cases hx
 rename_i hg
 obtain ⟨hn, hR0, hs1, hs2, hs3⟩ := hg
 split at hx
 case h_2 => cases hx
 rename_i ty xs hds
 split at hx
 case isFalse => cases hx
 rename_i hty
 subst hty
 split at hx
 case h_2 => cases hx
 rename_i i kk hi hk
 simp only [zD] at hx
 subst hx
 have Jk : ∀ {j : Nat} {n : Int}, Wi M j = some n -> M.S.gq j = .v (.one (.d (.int .i64 n))) := by
  intro j n hj
  unfold Wi at hj
  split at hj
  ·rename_i n' hh; cases hj; exact hh
  ·cases hj
 have hti := Jk hi
 have htk := Jk hk
 have gO : ∀ k, ((LM.put la (xs, i, kk)).S).aC k = [] := by
  intro k
  show (List.replicate _ ([] : List O)).getD k [] = []
  rw [zE, List.getElem?_replicate]
  split <;> rfl
 have gB : ∀ k, ((LM.put la (xs, i, kk)).S).dP k = none := by
  intro k
  show (List.replicate _ (none : Option (List C))).getD k none = none
  rw [zE, List.getElem?_replicate]
  split <;> rfl
 have gT : ∀ j, ((LM.put la (xs, i, kk)).S).gq j = if la.sk = j then (if j < la.n then .v (.one (.d (.int .i64 kk))) else .undef) else if la.si = j then (if j < la.n then .v (.one (.d (.int .i64 i))) else .undef) else .undef := by
  intro j
  show (((List.replicate la.n AV.undef).set la.si (.v (.one (.d (.int .i64 i))))).set la.sk (.v (.one (.d (.int .i64 kk))))).getD j .undef = _
  simp only [zE, List.getElem?_set, List.length_set, List.length_replicate, List.getElem?_replicate]
  by_cases h1 : la.sk = j
  ·subst h1
   by_cases h2 : la.sk < la.n <;> simp [h2]
  ·by_cases h2 : la.si = j
   ·subst h2
    by_cases h3 : la.si < la.n <;> simp [h1, h3]
   ·simp [h1, h2]
    split <;> rfl
 refine ⟨h.off, ⟨lS.refl _ _ _, h.inv.nodef, ?_, ?_, ?_, fun j v hv => ?_, fun b x hx => (by cases hx), fun b oo hs => ⟨hs.1, fun i e => (by cases e)⟩, fun j cs hcs => ?_, fun k j => ?_, fun k hk => hk.elim, fun i hi => hi.elim, fun b o hs _ => hs, fun b hb => by cases hb⟩, fun k => ⟨gO k, gB k⟩, ?_, ?_, h.uv, fun j rr v hr hv => ?_, h.lt, h.am, h.dis⟩
 ·rw [h.inv.tsz, hn]; simp [LM.put]
 ·simp [LM.put]
 ·simp [LM.put]
 ·rw [gT]
  split
  ·rename_i hj; subst hj
   split
   ·have := h.inv.tmps _ v hv; rw [htk] at this; exact this
   ·trivial
  ·split
   ·rename_i hj; subst hj
    split
    ·have := h.inv.tmps _ v hv; rw [hti] at this; exact this
    ·trivial
   ·trivial
 ·rw [gB] at hcs; cases hcs
 ·rw [gO]; trivial
 ·simp [LM.put]
 ·have := h.tree; rw [hds] at this; exact this
 ·have e : (LM.put la (xs, i, kk)).LK j = if 0 = j /\ 0 < la.n then some .tree else none := by
   simp only [LM.put, Ms.LK, zE, List.getElem?_set, List.length_replicate, List.getElem?_replicate]
   by_cases hj : 0 = j
   ·subst hj
    by_cases hl : 0 < la.n <;> simp [hl]
   ·simp [hj]
    split <;> rfl
  rw [e] at hr
  split at hr
  ·rename_i hj
   cases hr
   obtain ⟨rfl, _⟩ := hj
   unfold Rf.ZI at hR0
   split at hR0
   ·rename_i hh; exact h.refs 0 .tree v hh hv
   ·cases hR0
  ·cases hr
theorem Rw {c : Code} {ρ : Type} {r : ρ} {la : LM} {f : List la.ty.den × Int × Int -> Option ((List la.ty.den × Int × Int) ⊕ ρ)} {n0 : Nat} {x0 : List la.ty.den × Int × Int} (hn0 : iter f n0 x0 = some r) {a : Act} {w : World} (h0 : gI w0 agg g (la.put x0) a w)
  {k : Ex -> Ms -> Option ρ} {Q : Exit -> Act -> World -> Prop}
  (hround : ∀ (x : List la.ty.den × Int × Int) (res : (List la.ty.den × Int × Int) ⊕ ρ) (a : Act) (w : World), f x = some res -> gI w0 agg g (la.put x) a w -> ∀ Q' : Exit -> Act -> World -> Prop, (∀ y a' w', res = .inl y -> gI w0 agg g (la.put y) a' w' -> Q' .normal a' w') ->
   (∀ (r : ρ) (e : Ex) M' a' w', res = .inr r -> e ≠ .normal -> k e M' = some r -> gI w0 agg g M' a' w' -> Q' e.up a' w') -> c.wp P Q' a w)
  (hQ : ∀ e M' a' w', k e M' = some r -> gI w0 agg g M' a' w' -> Q e.up a' w') : (Code.loop c).wp P Q a w := by
 let J : Nat -> Act -> World -> Prop := fun n a w => ∃ (x : List la.ty.den × Int × Int), iter f n x = some r /\ gI w0 agg g (la.put x) a w
 classical
 have least : ∀ {a : Act} {w : World}, (∃ n, J n a w) -> ∃ n, J n a w /\ ∀ m, J m a w -> n <= m := by
  intro a w ⟨n, hn⟩
  have key : ∀ n, J n a w -> ∃ n, J n a w /\ ∀ m, J m a w -> n <= m := by
   intro n
   induction n using Nat.strongRecOn with
   | _ n ih =>
    intro hn
    by_cases hex : ∃ m, m < n /\ J m a w
    ·obtain ⟨m, hlt, hm'⟩ := hex
     exact ih m hlt hm'
    ·refine ⟨n, hn, fun m hm' => ?_⟩
     rcases Nat.lt_or_ge m n with hl | hl
     ·exact absurd ⟨m, hl, hm'⟩ hex
     ·exact hl
  exact key n hn
 refine wp_loop (fun a w => ∃ n, J n a w) (fun a w => if hh : ∃ n, J n a w then (least hh).choose else 0) ⟨n0, x0, hn0, h0⟩ ?_
 intro a1 w1 hI
 obtain ⟨hJ, hmin⟩ := (least hI).choose_spec
 rw [dif_pos hI]
 generalize (least hI).choose = n at hJ hmin
 obtain ⟨x, hit, h1⟩ := hJ
 cases n with
 | zero => cases hit
 | succ n =>
  simp only [iter] at hit
  split at hit
  ·cases hit
  ·rename_i y hy
   refine hround x _ a1 w1 hy h1 _ (fun z a' w' hz h' => ?_) (fun r' e S' a' w' hr' _ _ _ => by cases hr')
   cases hz
   have hI' : ∃ n, J n a' w' := ⟨n, y, hit, h'⟩
   show (∃ n, J n a' w') /\ _
   refine ⟨hI', ?_⟩
   rw [dif_pos hI']
   have := (least hI').choose_spec.2 n ⟨y, hit, h'⟩
   omega
  ·rename_i r0 hy
   simp only [zD] at hit
   subst hit
   refine hround x _ a1 w1 hy h1 _ (fun z a' w' hz h' => by cases hz) (fun r' e S' a' w' hr' hne hk h' => ?_)
   cases hr'
   cases e with
   | normal => exact absurd rfl hne
   | exit id => exact hQ (.exit id) S' a' w' hk h'
   | ret => exact hQ .ret S' a' w' hk h'
theorem kF {an : List (Nat × LM)} (hE : dY P E) : ∀ (c : Code) {ρ : Type} {r : ρ} {M : Ms} {a : Act} {w : World} {k : Ex -> Ms -> Option ρ} {Q : Exit -> Act -> World -> Prop},
  LX E agg an c M k = some r -> gI w0 agg g M a w -> (∀ e M' a' w', k e M' = some r -> gI w0 agg g M' a' w' -> Q e.up a' w') -> c.wp P Q a w
 | .skip, ρ, r, M, a, w, k, Q, hv, h, hQ => wp_skip (hQ .normal M a w hv h)
 | .label l, ρ, r, M, a, w, k, Q, hv, h, hQ => wp_label (hQ .normal M a w hv h)
 | .region id ops false, ρ, r, M, a, w, k, Q, hv, h, hQ => by
  refine wp_region ?_
  have := IB (P := P) (w0 := w0) (E := E) (ops := ops) (Q := Q) hE (k := fun M => k .normal M) (fun M' a' w' hk h' => hQ .normal M' a' w' hk h') (l := ops.toList) (i := 0) (by simp) hv h
  rw [List.range_eq_range']
  simpa using this
 | .region id ops true, ρ, r, M, a, w, k, Q, hv, h, hQ => by cases hv
 | .seq x y, ρ, r, M, a, w, k, Q, hv, h, hQ => by
  refine wp_seq (kF hE x (Q := Exit.then (y.wp P Q) Q) hv h fun e M' a' w' hk h' => ?_)
  cases e with
  | normal => exact kF hE y hk h' hQ
  | exit id => exact hQ (.exit id) M' a' w' hk h'
  | ret => exact hQ .ret M' a' w' hk h'
 | .cond c x y, ρ, r, M, a, w, k, Q, hv, h, hQ => by
  simp only [LX] at hv
  split at hv
  ·rename_i t
   have hr := h.inv.gq t
   split at hv
   ·rename_i b ht
    rw [ht] at hr
    have hr' : Rep w (gK (Kw g w)).S (.bool b) (a.eval (.tmp t)) := hr
    generalize hvv : a.eval (.tmp t) = vv at hr'
    cases hr'
    cases b with
    | true => exact wp_cond_true hvv (kF hE x hv h hQ)
    | false => exact wp_cond_false hvv (kF hE y hv h hQ)
   ·cases hv
  ·cases hv
 | .block id c, ρ, r, M, a, w, k, Q, hv, h, hQ => by
  refine wp_block (kF hE c (Q := Exit.inBlock id Q) hv h fun e M' a' w' hk h' => ?_)
  cases e with
  | normal => exact hQ .normal M' a' w' hk h'
  | exit i =>
   simp only at hk
   show (if i = id then Q .normal a' w' else Q (.exit i) a' w')
   by_cases hi : i = id
   ·rw [if_pos hi] at hk ⊢
    exact hQ .normal M' a' w' hk h'
   ·rw [if_neg hi] at hk ⊢
    exact hQ (.exit i) M' a' w' hk h'
  | ret => exact hQ .ret M' a' w' hk h'
 | .loop c, ρ, r, M, a, w, k, Q, hv, h, hQ => by
  simp only [LX] at hv
  split at hv
  ·cases hv
  rename_i hag
  split at hv
  ·cases hv
  rename_i la hla
  rw [zB] at hv
  obtain ⟨x0, hx0, hl⟩ := hv
  obtain ⟨n0, hn0⟩ := lJ hl
  refine Rw hn0 (LM.MX h hx0) (fun x res a1 w1 hfx h1 Q' hn he => kF hE c hfx h1 fun e M' a' w' hk h' => ?_) (fun e M' a' w' hk h' => hQ e M' a' w' hk h')
  cases e with
  | normal =>
   simp only at hk
   rw [zB] at hk
   obtain ⟨z, hz, hk⟩ := hk
   exact hn z a' w' (Option.some.inj hk).symm (LM.MX h' hz)
  | exit id =>
   simp only at hk
   rw [zB] at hk
   obtain ⟨r', hk, hr'⟩ := hk
   exact he r' (.exit id) M' a' w' (Option.some.inj hr').symm (by simp) hk h'
  | ret =>
   simp only at hk
   rw [zB] at hk
   obtain ⟨r', hk, hr'⟩ := hk
   exact he r' .ret M' a' w' (Option.some.inj hr').symm (by simp) hk h'
 | .exit id, ρ, r, M, a, w, k, Q, hv, h, hQ => wp_exit (hQ (.exit id) M a w hv h)
 | .ret, ρ, r, M, a, w, k, Q, hv, h, hQ => wp_ret (hQ .ret M a w hv h)
 | .scope c, ρ, r, M, a, w, k, Q, hv, h, hQ => by cases hv
 | .goto l, ρ, r, M, a, w, k, Q, hv, h, hQ => by cases hv
 | .rangeFunc .., ρ, r, M, a, w, k, Q, hv, h, hQ => by cases hv
 | .refuse s, ρ, r, M, a, w, k, Q, hv, h, hQ => by cases hv
end sound
theorem KX {P : Program} {E : Env} (hE : dY P E) (an : List (Nat × LM)) {m : Msp} {fn : Func} (hf : P.funcs[m.fid]? = some fn)
  (hden : ∀ x n, aak E an fn m.sh x n = m.fn x n) : nH P m := by
 intro w u x n r fps hr ham hT hlt hdis
 rw [<- hden x n] at hr
 unfold aak at hr
 split at hr
 ·cases hr
 rename_i c hb
 obtain ⟨vs, hv1, hv2, htree⟩ : ∃ vs : List Value, (m.sh.agg = true -> u = .agg vs.toArray) /\ (m.sh.agg = false -> vs = [u]) /\ aO (fun i d v => OwD w d v (fps i)) 0 (m.sh.t.cells x) vs := by
  unfold qA ShR at hT
  cases hs : m.sh.agg with
  | true =>
   rw [hs] at hT
   obtain ⟨vs, e1, e2⟩ := hT
   exact ⟨vs, fun _ => e1, fun e => (by cases e), e2⟩
  | false =>
   rw [hs] at hT
   exact ⟨[u], fun e => (by cases e), fun _ => rfl, hT⟩
 let g : Gm := ⟨u, vs, fps⟩
 have h0 : gI w m.sh.agg g
  {S := { tmps := .undef :: .v (.one (.d (.int .i64 n))) :: List.replicate (fn.ntmps - 2) .undef
          boxes := List.replicate (2 + (fn.ntmps - 2)) none
          owns := List.replicate (2 + (fn.ntmps - 2)) [] }
   R := some .tree :: List.replicate (1 + (fn.ntmps - 2)) none
   ds := m.sh.t.cells x } { tmps := #[u, .int .i64 n] ++ Array.replicate (fn.ntmps - (#[u, .int .i64 n] : Array Value).size) undef, defers := [] } w := by
  refine ⟨⟨rfl, rfl, rfl, Nat.le_refl _, fun _ _ _ => rfl⟩, ⟨lS.refl _ _ _, rfl, ?_, ?_, ?_, fun j v hv => ?_, fun b x hx => (by cases hx), fun b oo hs => ⟨hs.1, fun i e => (by cases e)⟩, fun j cs hcs => ?_, fun k j => ?_, fun k hk => hk.elim, fun i hi => hi.elim, fun b o hs _ => hs, fun b hb => by cases hb⟩, fun k => ⟨?_, ?_⟩, ?_, htree, ⟨hv1, hv2⟩, fun j rr v hr hv => ?_, fun i c hc => (hlt i c hc).2, ⟨ham, fun i c hc => (hlt i c hc).1⟩, hdis⟩
  ·simp; omega
  ·simp; omega
  ·simp; omega
  ·cases j with
   | zero => trivial
   | succ j =>
    cases j with
    | zero =>
     simp only [Array.getElem?_append] at hv
     simp at hv
     subst hv
     exact Rep.int _ _
    | succ j =>
     show iE _ _ ((AV.undef :: .v (.one (.d (.int .i64 n))) :: List.replicate (fn.ntmps - 2) .undef).getD (j + 2) .undef) v
     simp only [zE, List.getElem?_cons_succ, List.getElem?_replicate]
     split <;> trivial
  ·have : (List.replicate (2 + (fn.ntmps - 2)) (none : Option (List C))).getD j none = none := by
    rw [zE, List.getElem?_replicate]; split <;> rfl
   have hcs' : (List.replicate (2 + (fn.ntmps - 2)) (none : Option (List C))).getD j none = some cs := hcs
   rw [this] at hcs'; cases hcs'
  ·have : (List.replicate (2 + (fn.ntmps - 2)) ([] : List O)).getD k [] = [] := by
    rw [zE, List.getElem?_replicate]; split <;> rfl
   show qB _ _ _ _ (aU ((List.replicate (2 + (fn.ntmps - 2)) ([] : List O)).getD k []) j)
   rw [this]; trivial
  ·show (List.replicate (2 + (fn.ntmps - 2)) ([] : List O)).getD k [] = []
   rw [zE, List.getElem?_replicate]; split <;> rfl
  ·show (List.replicate (2 + (fn.ntmps - 2)) (none : Option (List C))).getD k none = none
   rw [zE, List.getElem?_replicate]; split <;> rfl
  ·simp; omega
  ·cases j with
   | zero =>
    have : rr = .tree := by
     have hr' : some Rf.tree = some rr := hr
     cases hr'; rfl
    subst this
    simp only [Array.getElem?_append] at hv
    simp at hv
    exact hv.symm
   | succ j =>
    have hr' : (List.replicate (1 + (fn.ntmps - 2)) (none : Option Rf)).getD j none = some rr := hr
    rw [zE, List.getElem?_replicate] at hr'
    split at hr' <;> cases hr'
 refine calls_of_wp hf hb (kF hE c hr h0 fun e M' a' w' hk h' => ?_)
 have key : adT fn m.sh M' = some r -> bodyPost P fn (fun e w' => e = .returned (.int .i64 r.2) /\ Off (fun c => ∃ i, fps i c) w w' /\ qA w' m.sh r.1 u fps) .ret a' w' := by
  intro hv
  unfold adT at hv
  split at hv
  case h_2 => cases hv
  rename_i t hres
  split at hv
  case h_2 => cases hv
  rename_i n' hn'
  rw [zB] at hv
  obtain ⟨y, hy, hv⟩ := hv
  simp only [zD] at hv
  subst hv
  have hrt := h'.inv.gq t
  rw [hn'] at hrt
  have hrt' : Rep w' (gK (Kw g w')).S (.int .i64 n') (a'.tmps.getD t undef) := hrt
  have hval : a'.tmps.getD t undef = .int .i64 n' := by
   generalize a'.tmps.getD t undef = vv at hrt'
   cases hrt'; rfl
  have hone : fn.results = #[.tmp t] := lm hres
  refine ⟨h'.inv.nodef, .int .i64 n', ?_, rfl, h'.off, ?_⟩
  ·change ((fn.results.mapM (uf a'.tmps)) >>= fun vs => pure (if h : vs.size = 1 then vs[0] else .tuple vs)).run P w' = _
   rw [hone]
   simp only [Array.mapM_eq_mapM_toList, List.mapM_cons, List.mapM_nil, uf, Sem.run_bind, Sem.run_map, Sem.run_pure, Result.andThen_ok, hval]
   simp
  ·have := h'.tree
   rw [<- Ty.bV hy] at this
   unfold qA ShR
   cases hs : m.sh.agg with
   | true => exact ⟨vs, hv1 hs, this⟩
   | false =>
    have e := hv2 hs
    have this' : aO (fun i d v => OwD w' d v (fps i)) 0 (m.sh.t.cells y) vs := this
    rw [e] at this'
    exact this'
 cases e with
 | normal => exact key hk
 | exit id => cases hk
 | ret => exact key hk
end Go.Abs
