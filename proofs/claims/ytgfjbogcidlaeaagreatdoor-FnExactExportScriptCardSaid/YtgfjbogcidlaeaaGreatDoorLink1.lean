import Derived.Test.YtgfjbogcidlaeaaGreatDoorKinds
import Derived.Test.YtgfjbogcidlaeaaGreatDoorS4
/- What the handed arguments read as: data. -/
set_option linter.unusedSimpArgs false
set_option linter.unusedVariables false
namespace Go.Abs
open Go.RowKit
inductive fC (L : Nat) : D -> Prop
 | int (k : IntKind) (n : Int) (h : (Lit.int k n).wf = true) : fC L (.int k n)
 | bool (b : Bool) : fC L (.bool b)
 | str (s : Str) (h : s.length <= L) : fC L (.str s)
 | list (t : Ty) (xs : List t.den) (h : xs.length <= L) (hx : ∀ (i : Nat) (x : t.den) (j : Nat) (d : D), xs[i]? = some x -> (t.cells x)[j]? = some d -> fC L d) : fC L (.list t xs)
def BL (P : Program) (k : TypeId -> Option (List Kd)) : Nat -> List Field -> Option (List Kd)
 | _, [] => some []
 | off, f :: r => if f.offset = off then (k f.type).bind fun ks => if ks.length = P.cellsOf f.type then (BL P k (off + ks.length) r).map (ks ++ ·) else none else none
def nU (P : Program) (T : TT) : Nat -> TypeId -> Option (List Kd)
 | 0, _ => none
 | n + 1, t => match P.underlying t with
  | some .bool => some [.bool]
  | some (.int k) => some [.int k]
  | some .string => some [.str]
  | some (.slice _) => (lk T.elem t).map fun τ => [.list τ]
  | some (.struct fs) => (BL P (nU P T n) 0 fs.toList).bind fun ks => if ks.length = P.cellsOf t then some ks else none
  | _ => none
def sK (P : Program) (T : TT) : Bool := T.elem.all fun x => match P.underlying x.1 with
 | some (.slice e) => decide (nU P T 9 e = some x.2.kinds) && decide (P.cellsOf e = x.2.size) && decide (0 < P.bytesOf e)
 | _ => false
theorem E5 {α : Type} {Q : Nat -> α -> Prop} : ∀ (n : Nat), (∀ i, i < n -> ∃ x, Q i x) -> ∃ xs : List α, xs.length = n /\ ∀ i x, xs[i]? = some x -> Q i x
 | 0, _ => ⟨[], rfl, fun i x h => (by simp at h)⟩
 | n + 1, h => by
  obtain ⟨xs, hl, hq⟩ := E5 n fun i hi => h i (by omega)
  obtain ⟨x, hx⟩ := h n (by omega)
  refine ⟨xs ++ [x], by simp [hl], fun i y hy => ?_⟩
  rw [List.getElem?_append] at hy
  split at hy
  ·exact hq i y hy
  ·rename_i hi
   have : i = n := by
    have := (zC.1 hy).1
    simp at this
    omega
   subst this
   simp [hl] at hy
   subst hy
   exact hx
theorem I5 {α β : Type} {f : α -> Option β} : ∀ {xs : List α} {ys : List β}, xs.mapM f = some ys -> ys.length = xs.length /\ ∀ (i : Nat) (x : α), xs[i]? = some x -> ∃ y, ys[i]? = some y /\ f x = some y
 | [], ys, h => by
  simp only [List.mapM_nil] at h
  cases h
  exact ⟨rfl, fun i x h => by simp at h⟩
 | a :: xs, ys, h => by
  simp only [List.mapM_cons, Option.bind_eq_bind, zB, Option.pure_def, zD] at h
  obtain ⟨y, hy, zs, hz, rfl⟩ := h
  obtain ⟨hl, hg⟩ := I5 hz
  refine ⟨by simp [hl], fun i x hx => ?_⟩
  cases i with
  | zero => simp at hx; subst hx; exact ⟨y, rfl, hy⟩
  | succ i => simp at hx; simpa using hg i x hx
section
variable {H : Type} {enc : TypeId × Value -> H} {P : Program} {T : TT} {w : World}
theorem weightsAll_mem {t : TypeId} {d : DataW H} {n : Nat} : ∀ {ds : List (DataW H)}, d ∈ ds -> n ∈ d.weights P t -> n ∈ DataW.weightsAll P t ds
 | d' :: ds, hd, hn => by
  simp only [DataW.weightsAll, List.mem_append]
  rcases List.mem_cons.1 hd with rfl | hd
  ·exact .inl hn
  ·exact .inr (weightsAll_mem hd hn)
def RF (w : World) (_ : Nat) (d : D) (v : Value) : Prop := Rep w (fun b _ => b < w.heap.size) d v /\ fC reachBytes d
theorem aO.cat {R : D -> Value -> Prop} : ∀ {n m k : Nat} {ds ds' : List D} {vs vs' : List Value}, aO (fun _ => R) n ds vs -> aO (fun _ => R) m ds' vs' -> aO (fun _ => R) k (ds ++ ds') (vs ++ vs')
 | n, m, k, [], ds', [], vs', _, h => by
  have : ∀ {m k : Nat} {ds : List D} {vs : List Value}, aO (fun _ => R) m ds vs -> aO (fun _ => R) k ds vs := by
   intro m k ds
   induction ds generalizing m k with
   | nil => intro vs h; cases vs with
    | nil => trivial
    | cons => exact h.elim
   | cons d ds ih => intro vs h; cases vs with
    | nil => exact h.elim
    | cons v vs => exact ⟨h.1, ih h.2⟩
  exact this h
 | n, m, k, d :: ds, ds', v :: vs, vs', h, h' => ⟨h.1, aO.cat (n := n + 1) h.2 h'⟩
theorem trod_bool {fuel : Nat} {t : TypeId} (hu : P.underlying t = some .bool) {cs : List Value} {d : DataW H} {ps : List MemPlace}
  (h : DataW.trod enc P w 0 (fun _ => true) true (fuel + 1) t cs = some (d, ps)) : ∃ b, cs = [.bool b] := by
 simp only [DataW.trod, hu] at h
 split at h <;> first | exact ⟨_, rfl⟩ | (rename_i e; cases e; done) | (rename_i e _; cases e; done) | cases h
theorem trod_int {fuel : Nat} {t : TypeId} {k : IntKind} (hu : P.underlying t = some (.int k)) {cs : List Value} {d : DataW H} {ps : List MemPlace}
  (h : DataW.trod enc P w 0 (fun _ => true) true (fuel + 1) t cs = some (d, ps)) : ∃ n, cs = [.int k n] /\ (Lit.int k n).wf = true := by
 simp only [DataW.trod, hu] at h
 split at h <;> first | (rename_i e; cases e; done) | (rename_i e _; cases e; done) | skip
 ·rename_i e
  cases e
  split at h
  ·rename_i hh
   exact ⟨_, by rw [hh.1], hh.2⟩
  ·cases h
 all_goals cases h
theorem trod_string {fuel : Nat} {t : TypeId} (hu : P.underlying t = some .string) {cs : List Value} {d : DataW H} {ps : List MemPlace}
  (h : DataW.trod enc P w 0 (fun _ => true) true (fuel + 1) t cs = some (d, ps)) : ∃ s, cs = [.string s] /\ d = .lit (.string s.data.toList) := by
 simp only [DataW.trod, hu] at h
 split at h <;> first | (rename_i e; cases e; done) | (rename_i e _; cases e; done) | skip
 ·split at h
  ·cases h; exact ⟨_, rfl, rfl⟩
  ·cases h
 all_goals cases h
theorem trod_slice {fuel : Nat} {t e : TypeId} (hu : P.underlying t = some (.slice e)) {cs : List Value} {d : DataW H} {ps : List MemPlace}
  (h : DataW.trod enc P w 0 (fun _ => true) true (fuel + 1) t cs = some (d, ps)) : cs = [.slice none 0 0] \/ ∃ a len cap elems rest, cs = [.slice (some a) len cap] /\ len <= cap /\
   (List.range len).mapM (fun i => (w.cells? 0 (a.add (i * P.cellsOf e)) (P.cellsOf e)).bind (DataW.trod enc P w 0 (fun _ => true) true fuel e)) = some elems /\ d = .slice (elems.map (·.1)) rest := by
 simp only [DataW.trod, hu] at h
 split at h <;> first | (rename_i e; cases e; done) | (rename_i e _; cases e; done) | skip
 ·exact .inl rfl
 ·rename_i e' a len cap hee
  cases hee
  split at h
  case isFalse => cases h
  rename_i hc
  simp only [zB, Option.map_eq_some_iff] at h
  obtain ⟨elems, h1, rest, h2, h3⟩ := h
  cases h3
  exact .inr ⟨a, len, cap, elems, _, rfl, hc.2.1, h1, rfl⟩
 all_goals cases h
theorem trod_struct {fuel : Nat} {t : TypeId} {fs : Array Field} (hu : P.underlying t = some (.struct fs)) {cs : List Value} {d : DataW H} {ps : List MemPlace}
  (h : DataW.trod enc P w 0 (fun _ => true) true (fuel + 1) t cs = some (d, ps)) : ∃ xs, cs.length = P.cellsOf t /\ fs.toList.mapM (fun f => DataW.trod enc P w 0 (fun _ => true) true fuel f.type ((cs.drop f.offset).take (P.cellsOf f.type))) = some xs /\ d = .agg (xs.map (·.1)) := by
 simp only [DataW.trod, hu] at h
 split at h
 ·rename_i hc
  rw [Option.map_eq_some_iff] at h
  obtain ⟨xs, h1, h2⟩ := h
  cases h2
  exact ⟨xs, hc, h1, rfl⟩
 ·cases h
theorem Yg {a : Addr} {n : Nat} {vs : List Value} (h : w.cells? 0 a n = some vs) : vs.length = n /\ ∀ j v, vs[j]? = some v -> w.cell? (a.add j) = some v := by
 unfold World.cells? at h
 rw [if_pos (Nat.zero_le _)] at h
 obtain ⟨hl, hg⟩ := I5 h
 refine ⟨by simpa using hl, fun j v hv => ?_⟩
 have hj : j < n := by have := (zC.1 hv).1; rw [hl] at this; simpa using this
 obtain ⟨y, hy, h'⟩ := hg j j (by simp [hj])
 rw [hv] at hy
 cases hy
 exact h'
theorem JX {a : Addr} {v : Value} (h : w.cell? a = some v) : a.block < w.heap.size /\ a.spot = none := by
 unfold World.cell? at h
 split at h
 ·rename_i hh
  refine ⟨(Array.getElem?_eq_some_iff.1 hh).1, ?_⟩
  split at h
  ·cases h
  ·rename_i hs; simpa using hs
 ·cases h
theorem Z9 {fuel n : Nat} {cs : List Value}
  (ih : ∀ (t : TypeId) (cs : List Value) (d : DataW H) (ps : List MemPlace) (ks : List Kd), nU P T n t = some ks ->
   DataW.trod enc P w 0 (fun _ => true) true fuel t cs = some (d, ps) -> (∀ m, m ∈ d.weights P t -> m <= reachBytes) -> ∃ ds : List D, ds.map kd = ks /\ aO (RF w) 0 ds cs) :
  ∀ (fs : List Field) (off : Nat) (ks : List Kd) (xs : List (DataW H × List MemPlace)), BL P (nU P T n) off fs = some ks ->
   fs.mapM (fun f => DataW.trod enc P w 0 (fun _ => true) true fuel f.type ((cs.drop f.offset).take (P.cellsOf f.type))) = some xs ->
   (∀ m, m ∈ DataW.weightsEach P (fs.map (·.type)) (xs.map (·.1)) -> m <= reachBytes) ->
   ∃ ds : List D, ds.map kd = ks /\ aO (RF w) 0 ds ((cs.drop off).take ks.length)
 | [], off, ks, xs, hk, _, _ => by
  simp only [BL, zD] at hk
  subst hk
  exact ⟨[], rfl, by simp; trivial⟩
 | f :: fs, off, ks, xs, hk, h, hw => by
  simp only [BL] at hk
  split at hk
  case isFalse => cases hk
  rename_i ho
  simp only [zB] at hk
  obtain ⟨k1, hk1, hk⟩ := hk
  split at hk
  case isFalse => cases hk
  rename_i hl
  rw [Option.map_eq_some_iff] at hk
  obtain ⟨k2, hk2, rfl⟩ := hk
  simp only [List.mapM_cons, Option.bind_eq_bind, zB, Option.pure_def, zD] at h
  obtain ⟨x, hx, ys, hy, rfl⟩ := h
  simp only [List.map_cons, DataW.weightsEach, List.mem_append] at hw
  obtain ⟨d1, e1, r1⟩ := ih f.type _ x.1 x.2 k1 hk1 hx fun m hm => hw m (.inl hm)
  obtain ⟨d2, e2, r2⟩ := Z9 ih fs (off + k1.length) k2 ys hk2 hy fun m hm => hw m (.inr hm)
  refine ⟨d1 ++ d2, by simp [e1, e2], ?_⟩
  have e : (cs.drop off).take (k1 ++ k2).length = (cs.drop f.offset).take (P.cellsOf f.type) ++ (cs.drop (off + k1.length)).take k2.length := by
   rw [ho, <- hl, List.length_append, List.take_add, List.drop_drop]
  rw [e]
  exact aO.cat r1 r2
theorem Gv (hE : sK P T = true) : ∀ (fuel n : Nat) (t : TypeId) (cs : List Value) (d : DataW H) (ps : List MemPlace) (ks : List Kd), nU P T n t = some ks ->
  DataW.trod enc P w 0 (fun _ => true) true fuel t cs = some (d, ps) -> (∀ m, m ∈ d.weights P t -> m <= reachBytes) -> ∃ ds : List D, ds.map kd = ks /\ aO (RF w) 0 ds cs
 | 0, n, t, cs, d, ps, ks, _, h, _ => by simp [DataW.trod] at h
 | fuel + 1, 0, t, cs, d, ps, ks, hk, _, _ => by simp [nU] at hk
 | fuel + 1, n + 1, t, cs, d, ps, ks, hk, h, hw => by
  rw [nU] at hk
  split at hk
  ·rename_i hu
   cases hk
   obtain ⟨b, rfl⟩ := trod_bool hu h
   exact ⟨[.bool b], rfl, ⟨.bool b, .bool b⟩, trivial⟩
  ·rename_i k hu
   cases hk
   obtain ⟨m, rfl, hm⟩ := trod_int hu h
   exact ⟨[.int k m], rfl, ⟨.int k m, .int k m hm⟩, trivial⟩
  ·rename_i hu
   cases hk
   obtain ⟨s, rfl, rfl⟩ := trod_string hu h
   exact ⟨[.str s.data.toList], rfl, ⟨.str s, .str _ (hw _ (by simp [DataW.weights]))⟩, trivial⟩
  ·rename_i e hu
   rw [Option.map_eq_some_iff] at hk
   obtain ⟨τ, hτ, rfl⟩ := hk
   have hee := List.all_eq_true.1 hE _ (uw hτ)
   simp only [hu, zI, decide_eq_true_eq] at hee
   obtain ⟨⟨hke, hce⟩, hbe⟩ := hee
   rcases trod_slice hu h with rfl | ⟨a, len, cap, elems, rest, rfl, hlc, hm, rfl⟩
   ·exact ⟨[.list τ []], rfl, ⟨.nil τ, .list τ [] (Nat.zero_le _) (fun i x j d hx => by simp at hx)⟩, trivial⟩
   obtain ⟨hml, hmg⟩ := I5 hm
   have hel : elems.length = len := by simpa using hml
   simp only [DataW.weights, hu, List.mem_cons, List.mem_append] at hw
   have key : ∀ i, i < len -> ∃ x : τ.den, ∃ vs : List Value, aO (RF w) 0 (τ.cells x) vs /\ ∀ j v, vs[j]? = some v -> w.cell? (Addr.add (a.add (i * τ.size)) j) = some v := by
    intro i hi
    obtain ⟨y, hy, hf⟩ := hmg i i (by simp [hi])
    rw [zB] at hf
    obtain ⟨vs, hvs, hf⟩ := hf
    obtain ⟨hl, hg⟩ := Yg hvs
    obtain ⟨ds, hd, hr⟩ := Gv hE fuel 9 e vs y.1 y.2 _ hke hf fun m hmm => hw m (.inr (.inl (weightsAll_mem (List.mem_map_of_mem (zG hy)) hmm)))
    obtain ⟨x, hx⟩ := yP hd
    exact ⟨x, vs, by rw [Ty.bV hx]; exact hr, fun j v hv => by rw [<- hce]; exact hg j v hv⟩
   obtain ⟨xs, hxl, hxs⟩ := E5 len key
   have hlen : xs.length <= reachBytes := by
    have h1 := hw _ (.inl rfl)
    have h2 : len * 1 <= (elems.length + rest.length) * P.bytesOf e := Nat.mul_le_mul (by omega) hbe
    rw [List.length_map] at h1
    omega
   have hcell : ∀ (i : Nat) (x : τ.den) (j : Nat) (d : D), xs[i]? = some x -> (τ.cells x)[j]? = some d -> ∃ v, w.cell? (Addr.add (a.add (i * τ.size)) j) = some v /\ RF w 0 d v := by
    intro i x j d hx hd
    obtain ⟨vs, hr, hg⟩ := hxs i x hx
    obtain ⟨hl, hc⟩ := hr.get
    have hj : j < vs.length := by rw [<- hl]; exact (zC.1 hd).1
    have := hc j d vs[j] hd (by simp [hj])
    exact ⟨vs[j], hg j _ (by simp [hj]), this⟩
   refine ⟨[.list τ xs], rfl, ⟨?_, .list τ xs hlen fun i x j d hx hd => ?_⟩, trivial⟩
   ·cases hlz : len with
    | zero =>
     rw [hlz] at hxl
     obtain rfl := List.eq_nil_of_length_eq_zero hxl
     exact .emp τ a cap
    | succ m =>
     rw [<- hlz]
     have hsp : a.spot = none := by
      have h0 : 0 < xs.length := by omega
      have hs0 : 0 < (τ.cells xs[0]).length := by rw [Ty.aQ]; exact τ.size_pos
      obtain ⟨v, hv, _⟩ := hcell 0 xs[0] 0 (τ.cells xs[0])[0] (by simp [h0]) (by simp [hs0])
      have := (JX hv).2
      simpa [Addr.add] using this
     obtain ⟨b, off, sp⟩ := a
     simp only at hsp
     subst hsp
     rw [<- hxl]
     refine .list τ xs b off cap (fun i j => (w.cell? ⟨b, off + (i * τ.size + j), none⟩).getD undef) (by omega) ?_ ?_
     ·intro i x j d hx hd
      obtain ⟨v, hv, _⟩ := hcell i x j d hx hd
      rw [addr_add, addr_add, Nat.add_assoc] at hv
      rw [hv]
      exact ⟨rfl, (JX hv).1⟩
     ·intro i x j d hx hd
      obtain ⟨v, hv, hr, _⟩ := hcell i x j d hx hd
      rw [addr_add, addr_add, Nat.add_assoc] at hv
      rw [hv]
      exact hr
   ·obtain ⟨v, _, _, hf⟩ := hcell i x j d hx hd
    exact hf
  ·rename_i fs hu
   simp only [zB] at hk
   obtain ⟨k, hk, hk'⟩ := hk
   split at hk'
   case isFalse => cases hk'
   rename_i hl
   cases hk'
   obtain ⟨xs, hc, hm, rfl⟩ := trod_struct hu h
   simp only [DataW.weights, hu] at hw
   obtain ⟨ds, hd, hr⟩ := Z9 (cs := cs) (fun t cs d ps ks hk h hw => Gv hE fuel n t cs d ps ks hk h hw) fs.toList 0 ks xs hk hm hw
   refine ⟨ds, hd, ?_⟩
   rw [hl, <- hc] at hr
   simpa using hr
  ·cases hk
termination_by fuel => fuel
end
end Go.Abs
