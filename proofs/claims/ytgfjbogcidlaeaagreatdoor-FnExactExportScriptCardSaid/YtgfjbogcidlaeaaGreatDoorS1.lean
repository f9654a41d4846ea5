import Derived.Test.YtgfjbogcidlaeaaGreatDoorAbs
import Derived.Laws.StructEq
/- What the abstract evaluator's states say of the machine's; the first operations. -/
set_option linter.unusedSimpArgs false
set_option linter.unusedVariables false
namespace Go.Abs
open Go.RowKit
theorem Rd.ak {α β : Type} (p : Rd α) (g : α -> Rd β) (S : St) : (p.bind g).val S = (p.val S).bind fun a => (g a).val S := by
 induction p with
 | ret a => rfl
 | fail => rfl
 | gT i f ih => exact ih _
 | gB i f ih => exact ih _
 | gO i f ih => exact ih _
 | gN f ih => exact ih _
 | opt o f ih =>
  cases o with
  | none => rfl
  | some x => exact ih x
theorem Rd.iF {α ρ : Type} (p : Rd α) (S : St) (k : α -> Option ρ) : p.runK S k = (p.val S).bind k := by
 induction p with
 | ret a => rfl
 | fail => rfl
 | gT i f ih => exact ih _
 | gB i f ih => exact ih _
 | gO i f ih => exact ih _
 | gN f ih => exact ih _
 | opt o f ih =>
  cases o with
  | none => rfl
  | some x => exact ih x
def Rd.vI {α : Type} : Rd α -> St -> List L -> Option (α × List L)
 | .ret a, _, l => some (a, l)
 | .fail, _, _ => none
 | .gT i f, S, l => (f (S.gq i)).vI S (.t i :: l)
 | .gB i f, S, l => (f (S.dP i)).vI S (.b i :: l)
 | .gO i f, S, l => (f (S.aC i)).vI S (.o i :: l)
 | .gN _, _, _ => none
 | .opt o f, S, l => o.bind fun x => (f x).vI S l
theorem Rd.aa3 {α ρ : Type} (p : Rd α) (S : St) (l : List L) (k : α -> List L -> Option ρ) :
  p.Xq S l k = (p.vI S l).bind fun x => k x.1 x.2 := by
 induction p generalizing l with
 | ret a => rfl
 | fail => rfl
 | gT i f ih => exact ih _ _
 | gB i f ih => exact ih _ _
 | gO i f ih => exact ih _ _
 | gN f ih => rfl
 | opt o f ih =>
  cases o with
  | none => rfl
  | some x => exact ih x l
theorem Rd.Yn {α : Type} {p : Rd α} {S : St} : ∀ {l : List L} {a : α} {rs : List L}, p.vI S l = some (a, rs) -> p.val S = some a := by
 induction p with
 | ret a => intro l b rs h; simp only [vI, zD, Prod.mk.injEq] at h; exact congrArg some h.1
 | fail => intro l b rs h; cases h
 | gT i f ih => intro l b rs h; exact ih _ h
 | gB i f ih => intro l b rs h; exact ih _ h
 | gO i f ih => intro l b rs h; exact ih _ h
 | gN f ih => intro l b rs h; cases h
 | opt o f ih =>
  intro l b rs h
  cases o with
  | none => cases h
  | some x => exact ih x h
theorem Rd.CY {α : Type} {p : Rd α} {S : St} : ∀ {l : List L} {a : α} {rs : List L}, p.vI S l = some (a, rs) -> ∀ x, x ∈ l -> x ∈ rs := by
 induction p with
 | ret a => intro l b rs h x hx; simp only [vI, zD, Prod.mk.injEq] at h; exact h.2 ▸ hx
 | fail => intro l b rs h; cases h
 | gT i f ih => intro l b rs h x hx; exact ih _ h x (List.mem_cons_of_mem _ hx)
 | gB i f ih => intro l b rs h x hx; exact ih _ h x (List.mem_cons_of_mem _ hx)
 | gO i f ih => intro l b rs h x hx; exact ih _ h x (List.mem_cons_of_mem _ hx)
 | gN f ih => intro l b rs h; cases h
 | opt o f ih =>
  intro l b rs h x hx
  cases o with
  | none => cases h
  | some y => exact ih y h x hx
def agree (S S' : St) : L -> Prop
 | .t i => S'.gq i = S.gq i
 | .b i => S'.dP i = S.dP i
 | .o i => S'.aC i = S.aC i
theorem Rd.Gs {α : Type} {p : Rd α} {S S' : St} : ∀ {l : List L} {a : α} {rs : List L}, p.vI S l = some (a, rs) -> (∀ x, x ∈ rs -> agree S S' x) -> p.vI S' l = some (a, rs) := by
 induction p with
 | ret a => intro l b rs h _; exact h
 | fail => intro l b rs h; cases h
 | gT i f ih =>
  intro l b rs h hx
  have e : S'.gq i = S.gq i := hx (.t i) (CY (p := f (S.gq i)) h (.t i) List.mem_cons_self)
  simp only [vI, e]; exact ih _ h hx
 | gB i f ih =>
  intro l b rs h hx
  have e : S'.dP i = S.dP i := hx (.b i) (CY (p := f (S.dP i)) h (.b i) List.mem_cons_self)
  simp only [vI, e]; exact ih _ h hx
 | gO i f ih =>
  intro l b rs h hx
  have e : S'.aC i = S.aC i := hx (.o i) (CY (p := f (S.aC i)) h (.o i) List.mem_cons_self)
  simp only [vI, e]; exact ih _ h hx
 | gN f ih => intro l b rs h; cases h
 | opt o f ih =>
  intro l b rs h hx
  cases o with
  | none => cases h
  | some y => exact ih y h hx
inductive Rep (w : World) (S : Nat -> Nat -> Prop) : D -> Value -> Prop
 | int (k : IntKind) (n : Int) : Rep w S (.int k n) (.int k n)
 | bool (b : Bool) : Rep w S (.bool b) (.bool b)
 | str (v : ByteArray) : Rep w S (.str v.data.toList) (.string v)
 | nil (t : Ty) : Rep w S (.list t []) (.slice none 0 0)
 | emp (t : Ty) (a : Addr) (cap : Nat) : Rep w S (.list t []) (.slice (some a) 0 cap)
 | list (t : Ty) (xs : List t.den) (b off cap : Nat) (vs : Nat -> Nat -> Value) (hcap : xs.length <= cap)
   (hc : ∀ (i : Nat) (x : t.den) (j : Nat) (d : D), xs[i]? = some x -> (t.cells x)[j]? = some d ->
    w.cell? ⟨b, off + (i * t.size + j), none⟩ = some (vs i j) /\ S b (off + (i * t.size + j)))
   (hr : ∀ (i : Nat) (x : t.den) (j : Nat) (d : D), xs[i]? = some x -> (t.cells x)[j]? = some d -> Rep w S d (vs i j)) :
   Rep w S (.list t xs) (.slice (some ⟨b, off, none⟩) xs.length cap)
theorem Rep.move {w w' : World} {S S' : Nat -> Nat -> Prop} {d : D} {v : Value} (h : Rep w S d v)
  (hS : ∀ b o, S b o -> S' b o /\ w'.cell? ⟨b, o, none⟩ = w.cell? ⟨b, o, none⟩) : Rep w' S' d v := by
 induction h with
 | int k n => exact .int k n
 | bool b => exact .bool b
 | str v => exact .str v
 | nil t => exact .nil t
 | emp t a cap => exact .emp t a cap
 | list t xs b off cap vs hcap hc hr ih =>
  exact .list t xs b off cap vs hcap (fun i x j d hx hd => ⟨(hS _ _ (hc i x j d hx hd).2).2.trans (hc i x j d hx hd).1, (hS _ _ (hc i x j d hx hd).2).1⟩) ih
theorem Rep.one {w : World} {S : Nat -> Nat -> Prop} {d : D} {v : Value} (h : Rep w S d v) : v.oneCell' = true := by
 cases h <;> rfl
inductive Ow (w : World) (S : Nat -> Nat -> Prop) (deep : Bool) : D -> Value -> (Nat -> Prop) -> Prop
 | int (k : IntKind) (n : Int) (fp : Nat -> Prop) : Ow w S deep (.int k n) (.int k n) fp
 | bool (b : Bool) (fp : Nat -> Prop) : Ow w S deep (.bool b) (.bool b) fp
 | str (v : ByteArray) (fp : Nat -> Prop) : Ow w S deep (.str v.data.toList) (.string v) fp
 | nil (t : Ty) (fp : Nat -> Prop) : Ow w S deep (.list t []) (.slice none 0 0) fp
 | ro (d : D) (v : Value) (fp : Nat -> Prop) (hd : deep = false) (h : Rep w S d v) : Ow w S deep d v fp
 | list (t : Ty) (xs : List t.den) (b cap : Nat) (arr : Array Value) (E : TypeId) (vs : Nat -> Nat -> Value) (fps : Nat -> Nat -> Nat -> Prop) (fp : Nat -> Prop)
   (hb : w.heap[b]? = some (.cells arr E (0, 0))) (hcap : xs.length <= cap) (hmax : cap <= maxLen) (hsz : arr.size = cap * t.size) (hfb : fp b)
   (hc : ∀ (i : Nat) (x : t.den) (j : Nat) (d : D), xs[i]? = some x -> (t.cells x)[j]? = some d -> arr[i * t.size + j]? = some (vs i j))
   (hr : ∀ (i : Nat) (x : t.den) (j : Nat) (d : D), xs[i]? = some x -> (t.cells x)[j]? = some d -> Ow w S deep d (vs i j) (fps i j))
   (hf : ∀ i j c, fps i j c -> fp c /\ c ≠ b)
   (hdis : ∀ i j i' j' c, fps i j c -> fps i' j' c -> i = i' /\ j = j') :
   Ow w S deep (.list t xs) (.slice (some ⟨b, 0, none⟩) xs.length cap) fp
theorem Ow.move {w w' : World} {S S' : Nat -> Nat -> Prop} {deep : Bool} {d : D} {v : Value} {fp : Nat -> Prop} (h : Ow w S deep d v fp)
  (hS : ∀ b o, S b o -> S' b o /\ w'.cell? ⟨b, o, none⟩ = w.cell? ⟨b, o, none⟩) (hfp : ∀ b, fp b -> w'.heap[b]? = w.heap[b]?) : Ow w' S' deep d v fp := by
 induction h with
 | int k n fp => exact .int k n fp
 | bool b fp => exact .bool b fp
 | str v fp => exact .str v fp
 | nil t fp => exact .nil t fp
 | ro d v fp hd h => exact .ro d v fp hd (h.move hS)
 | list t xs b cap arr E vs fps fp hb hcap hmax hsz hfb hc hr hf hdis ih =>
  exact .list t xs b cap arr E vs fps fp ((hfp b hfb).trans hb) hcap hmax hsz hfb hc (fun i x j d hx hd => ih i x j d hx hd fun c hcc => hfp c (hf i j c hcc).1) hf hdis
theorem Ow.sub {w : World} {S : Nat -> Nat -> Prop} {deep deep' : Bool} {d : D} {v : Value} {fp fp' : Nat -> Prop} (h : Ow w S deep d v fp)
  (hfp : ∀ b, fp b -> fp' b) (hd : deep' = true -> deep = true) : Ow w S deep' d v fp' := by
 induction h generalizing fp' with
 | int k n fp => exact .int k n _
 | bool b fp => exact .bool b _
 | str v fp => exact .str v _
 | nil t fp => exact .nil t _
 | ro d v fp hd' h =>
  refine .ro d v _ ?_ h
  cases hx : deep' with
  | false => rfl
  | true => rw [hd hx] at hd'; cases hd'
 | list t xs b cap arr E vs fps fp hb hcap hmax hsz hfb hc hr hf hdis ih =>
  exact .list t xs b cap arr E vs fps fp' hb hcap hmax hsz (hfp b hfb) hc (fun i x j d hx hd => ih i x j d hx hd fun _ h => h) (fun i j c h => ⟨hfp c (hf i j c h).1, (hf i j c h).2⟩) hdis
theorem Ow.one {w : World} {S : Nat -> Nat -> Prop} {deep : Bool} {d : D} {v : Value} {fp : Nat -> Prop} (h : Ow w S deep d v fp) : v.oneCell' = true := by
 cases h with
 | ro d v fp hd h => exact h.one
 | _ => rfl
theorem Ow.VB {w : World} {S S' : Nat -> Nat -> Prop} {deep : Bool} {d : D} {v : Value} {fp : Nat -> Prop} (h : Ow w S deep d v fp)
  (hS : ∀ b o, S b o -> S' b o) (hfp : ∀ b o, fp b -> (∃ u, w.cell? ⟨b, o, none⟩ = some u) -> S' b o) : Rep w S' d v := by
 induction h with
 | int k n fp => exact .int k n
 | bool b fp => exact .bool b
 | str v fp => exact .str v
 | nil t fp => exact .nil t
 | ro d v fp hd h => exact h.move fun b o hs => ⟨hS b o hs, rfl⟩
 | list t xs b cap arr E vs fps fp hb hcap hmax hsz hfb hc hr hf hdis ih =>
  refine .list t xs b 0 cap vs hcap (fun i x j d hx hd => ?_) (fun i x j d hx hd => ih i x j d hx hd fun c o hcc => hfp c o (hf i j c hcc).1)
  have e : w.cell? ⟨b, 0 + (i * t.size + j), none⟩ = some (vs i j) := by
   simp only [Nat.zero_add, World.cell?, hb]; simpa using hc i x j d hx hd
  exact ⟨e, hfp b _ hfb ⟨_, e⟩⟩
inductive vG where
 | box (i : Nat)
 | own (k j : Nat)
structure Gh where
 bk : Nat -> Nat
 ov : Nat -> Nat -> Value
 ow : Nat -> Option vG
 S : Nat -> Nat -> Prop
 lk : Nat -> Prop
 lb : Nat -> Prop
def kY (G : Gh) (w : World) : C -> Value -> Prop
 | .undef, v => v.oneCell' = true
 | .d x, v => Rep w G.S x v
 | .nil, v => v = .slice none 0 0
 | .own k j, v => G.lk k /\ v = G.ov k j /\ v.oneCell' = true
 | .ptr b off, v => G.lb b /\ v = .pointer (some ⟨G.bk b, off, none⟩)
theorem kY.one {G : Gh} {w : World} {c : C} {v : Value} (h : kY G w c v) : v.oneCell' = true := by
 cases c with
 | undef => exact h
 | d x => exact Rep.one h
 | nil => rw [show v = _ from h]; rfl
 | own k j => exact h.2.2
 | ptr b off => rw [show v = _ from h.2]; rfl
def bY (G : Gh) (w : World) : List C -> List Value -> Prop
 | [], [] => True
 | c :: cs, v :: vs => kY G w c v /\ bY G w cs vs
 | _, _ => False
def pR (G : Gh) (w : World) : V -> Value -> Prop
 | .one c, v => kY G w c v
 | .agg cs, v => ∃ vs : List Value, v = .agg vs.toArray /\ bY G w cs vs
def kL (G : Gh) (w : World) : List V -> List Value -> Prop
 | [], [] => True
 | c :: cs, v :: vs => pR G w c v /\ kL G w cs vs
 | _, _ => False
def Qe (G : Gh) (w : World) (t : Ty) (x : t.den) (b o : Nat) : Prop :=
 ∃ vs : Nat -> Value, ∀ (j : Nat) (d : D), (t.cells x)[j]? = some d -> w.cell? ⟨b, o + j, none⟩ = some (vs j) /\ G.S b (o + j) /\ Rep w G.S d (vs j)
def iE (G : Gh) (w : World) : AV -> Value -> Prop
 | .undef, _ => True
 | .v x, v => pR G w x v
 | .elt t x off, v => ∃ b o, v = .pointer (some ⟨b, o + off, none⟩) /\ Qe G w t x b o
 | .oelt k j i sz off, v => G.lk k /\ ∃ b len cap, G.ov k j = .slice (some ⟨b, 0, none⟩) len cap /\ v = .pointer (some ⟨b, i * sz + off, none⟩)
 | .cut t len n k1 k2, v => G.lk k1 /\ G.lk k2 /\ ((v = .slice none 0 0 /\ n = 0 /\ G.ov k1 0 = .slice none 0 0 /\ G.ov k2 0 = .slice none 0 0) \/
   ∃ b cap, v = .slice (some ⟨b, 0, none⟩) len cap /\ len <= cap /\ n <= len /\ G.ov k1 0 = .slice (some ⟨b, 0, none⟩) n cap /\ G.ov k2 0 = .slice (some ⟨b, if cap = n then 0 else n * t.size, none⟩) (len - n) (cap - n))
 | .seg k, v => G.lk k /\ v = G.ov k 0
 | .pre k j n, v => G.lk k /\ ((v = .slice none 0 0 /\ n = 0 /\ G.ov k j = .slice none 0 0) \/ ∃ b len cap, G.ov k j = .slice (some ⟨b, 0, none⟩) len cap /\ n <= len /\ v = .slice (some ⟨b, 0, none⟩) n cap)
 | .suf t k j m, v => G.lk k /\ ∀ (w' : World) (S' : Nat -> Nat -> Prop) (xs : List t.den), Rep w' S' (.list t xs) (G.ov k j) -> Rep w' S' (.list t (xs.drop m)) v
 | .tup vs, v => ∃ us : List Value, v = .tuple us.toArray /\ kL G w vs us
def eH (G : Gh) (k j : Nat) : Nat -> Prop := fun b => G.ow b = some (.own k j)
def OwT (w : World) (S : Nat -> Nat -> Prop) (deep m : Bool) (t : Ty) (xs : List t.den) (v : Value) (fp : Nat -> Prop) : Prop :=
 (v = .slice none 0 0 /\ xs = []) \/
 ∃ (b cap : Nat) (arr : Array Value) (E : TypeId) (vs : Nat -> Nat -> Value) (fps : Nat -> Nat -> Nat -> Prop),
  v = .slice (some ⟨b, 0, none⟩) xs.length cap /\ w.heap[b]? = some (.cells arr E (0, 0)) /\ xs.length <= cap /\ cap <= maxLen /\ arr.size = cap * t.size /\ fp b /\
  (∀ (i : Nat) (x : t.den) (j : Nat) (d : D), xs[i]? = some x -> (t.cells x)[j]? = some d -> arr[i * t.size + j]? = some (vs i j)) /\
  (∀ (i : Nat) (x : t.den) (j : Nat) (d : D), xs[i]? = some x -> (t.cells x)[j]? = some d -> Ow w S deep d (vs i j) (fps i j)) /\
  (∀ i j c, fps i j c -> fp c /\ c ≠ b) /\
  (∀ i j i' j' c, fps i j c -> fps i' j' c -> i = i' /\ j = j') /\
  (∀ o, S b o -> m = false /\ o < xs.length * t.size)
theorem OwT.ow {w : World} {S : Nat -> Nat -> Prop} {deep m : Bool} {t : Ty} {xs : List t.den} {v : Value} {fp : Nat -> Prop} (h : OwT w S deep m t xs v fp) :
  Ow w S deep (.list t xs) v fp := by
 rcases h with ⟨rfl, rfl⟩ | ⟨b, cap, arr, E, vs, fps, rfl, hb, hcap, hmax, hsz, hfb, hc, hr, hf, hdis, _⟩
 ·exact .nil t fp
 ·exact .list t xs b cap arr E vs fps fp hb hcap hmax hsz hfb hc hr hf hdis
def gu (w : World) (S : Nat -> Nat -> Prop) (t : Ty) (xs : List t.den) (i : Nat) (v : Value) (fp : Nat -> Prop) : Prop :=
 (v = .slice none 0 0 /\ xs = []) \/
 ∃ (b cap : Nat) (arr : Array Value) (E : TypeId) (vs : Nat -> Nat -> Value) (fps : Nat -> Nat -> Nat -> Prop),
  v = .slice (some ⟨b, 0, none⟩) xs.length cap /\ w.heap[b]? = some (.cells arr E (0, 0)) /\ xs.length <= cap /\ cap <= maxLen /\ arr.size = cap * t.size /\ fp b /\
  (∀ (i' : Nat) (x : t.den) (j : Nat) (d : D), xs[i']? = some x -> (t.cells x)[j]? = some d -> arr[i' * t.size + j]? = some (vs i' j)) /\
  (∀ (i' : Nat) (x : t.den) (j : Nat) (d : D), i <= i' -> xs[i']? = some x -> (t.cells x)[j]? = some d -> Ow w (fun _ _ => False) true d (vs i' j) (fps i' j)) /\
  (∀ i' j c, i <= i' -> fps i' j c -> fp c /\ c ≠ b /\ ∀ o, ¬ S c o) /\
  (∀ i' j i'' j' c, i <= i' -> i <= i'' -> fps i' j c -> fps i'' j' c -> i' = i'' /\ j = j')
theorem gu.move {w w' : World} {S S' : Nat -> Nat -> Prop} {t : Ty} {xs : List t.den} {i : Nat} {v : Value} {fp fp' : Nat -> Prop} (h : gu w S t xs i v fp)
  (hfp : ∀ b, fp b -> fp' b /\ w'.heap[b]? = w.heap[b]?) (hS : ∀ b o, fp b -> S' b o -> S b o) : gu w' S' t xs i v fp' := by
 rcases h with h | ⟨b, cap, arr, E, vs, fps, rfl, hb, hcap, hmax, hsz, hfb, hc, hr, hf, hdis⟩
 ·exact .inl h
 ·exact .inr ⟨b, cap, arr, E, vs, fps, rfl, (hfp b hfb).2.trans hb, hcap, hmax, hsz, (hfp b hfb).1, hc, fun i' x j d hi hx hd => (hr i' x j d hi hx hd).move (fun _ _ h => h.elim) fun c hcc => (hfp c (hf i' j c hi hcc).1).2,
   fun i' j c hi hcc => ⟨(hfp c (hf i' j c hi hcc).1).1, (hf i' j c hi hcc).2.1, fun o ho => (hf i' j c hi hcc).2.2 o (hS c o (hf i' j c hi hcc).1 ho)⟩, hdis⟩
theorem gu.succ {w : World} {S : Nat -> Nat -> Prop} {t : Ty} {xs : List t.den} {i : Nat} {v : Value} {fp : Nat -> Prop} (h : gu w S t xs i v fp) : gu w S t xs (i + 1) v fp := by
 rcases h with h | ⟨b, cap, arr, E, vs, fps, e1, e2, e3, e4, e5, e6, e7, e8, e9, e10⟩
 ·exact .inl h
 ·exact .inr ⟨b, cap, arr, E, vs, fps, e1, e2, e3, e4, e5, e6, e7, fun i' x j d hi => e8 i' x j d (by omega), fun i' j c hi => e9 i' j c (by omega), fun i' j i'' j' c hi hi' => e10 i' j i'' j' c (by omega) (by omega)⟩
theorem gu.IK {w : World} {S' : Nat -> Nat -> Prop} {t : Ty} {xs : List t.den} {v : Value} {fp fp' : Nat -> Prop} (h : Ow w (fun _ _ => False) true (.list t xs) v fp) (hf : ∀ c, fp c -> fp' c) (hS : ∀ b o, S' b o -> ¬ fp b) : gu w S' t xs 0 v fp' := by
 generalize hdd : D.list t xs = dd at h
 cases h with
 | int => cases hdd
 | bool => cases hdd
 | str => cases hdd
 | nil t' => cases hdd; exact .inl ⟨rfl, rfl⟩
 | ro _ _ _ hd => cases hd
 | list t' xs' b cap arr E vs fps _ hb hcap hmax hsz hfb hc hr hfp hdis =>
  cases hdd
  exact .inr ⟨b, cap, arr, E, vs, fps, rfl, hb, hcap, hmax, hsz, hf _ hfb, hc, fun i x j d _ hx hd => hr i x j d hx hd, fun i j c _ hcf => ⟨hf _ (hfp i j c hcf).1, (hfp i j c hcf).2, fun o hs => hS c o hs (hfp i j c hcf).1⟩, fun i j i' j' c _ _ => hdis i j i' j' c⟩
theorem gu.at {w : World} {S : Nat -> Nat -> Prop} {t : Ty} {xs : List t.den} {v : Value} {fp : Nat -> Prop} (h : gu w S t xs 0 v fp) : ∀ i, gu w S t xs i v fp
 | 0 => h
 | i + 1 => (gu.at h i).succ
def jI (w : World) (S : Nat -> Nat -> Prop) (dp : Bool) (t : Ty) (xs : List t.den) (cells : List Value) (lab : Nat -> Prop) : Prop :=
 cells.length = xs.length * t.size /\ (∀ v ∈ cells, v.oneCell' = true) /\ ∃ (vs : Nat -> Nat -> Value) (fps : Nat -> Nat -> Nat -> Prop),
  (∀ (i : Nat) (x : t.den) (j : Nat) (d : D), xs[i]? = some x -> (t.cells x)[j]? = some d -> cells[i * t.size + j]? = some (vs i j) /\ Ow w S dp d (vs i j) (fps i j)) /\
  (∀ i j c, fps i j c -> lab c) /\ (∀ i j i' j' c, fps i j c -> fps i' j' c -> i = i' /\ j = j')
def vK (w : World) (S : Nat -> Nat -> Prop) (t : Ty) (ys : List t.den) (v : Value) (lab : Nat -> Prop) : Prop :=
 ((∃ (ad : Option Addr) (cap : Nat), v = .slice ad 0 cap /\ (ad = none -> cap = 0)) /\ ys = []) \/
 ∃ b off cap news, v = .slice (some ⟨b, off, none⟩) ys.length cap /\ (∀ p u, news[p]? = some u -> w.cell? ⟨b, off + p, none⟩ = some u /\ S b (off + p)) /\ jI w S true t ys news lab
theorem jI.move {w w' : World} {S S' : Nat -> Nat -> Prop} {dp : Bool} {t : Ty} {xs : List t.den} {cells : List Value} {lab lab' : Nat -> Prop} (h : jI w S dp t xs cells lab)
  (hS : ∀ b o, S b o -> S' b o /\ w'.cell? ⟨b, o, none⟩ = w.cell? ⟨b, o, none⟩) (hl : ∀ b, lab b -> lab' b /\ w'.heap[b]? = w.heap[b]?) : jI w' S' dp t xs cells lab' := by
 obtain ⟨h1, h2, vs, fps, h3, h4, h5⟩ := h
 exact ⟨h1, h2, vs, fps, fun i x j d hx hd => ⟨(h3 i x j d hx hd).1, (h3 i x j d hx hd).2.move hS fun c hc => (hl c (h4 i j c hc)).2⟩, fun i j c hc => (hl c (h4 i j c hc)).1, h5⟩
theorem vK.move {w w' : World} {S S' : Nat -> Nat -> Prop} {t : Ty} {xs : List t.den} {v : Value} {lab lab' : Nat -> Prop} (h : vK w S t xs v lab)
  (hS : ∀ b o, S b o -> S' b o /\ w'.cell? ⟨b, o, none⟩ = w.cell? ⟨b, o, none⟩) (hl : ∀ b, lab b -> lab' b /\ w'.heap[b]? = w.heap[b]?) : vK w' S' t xs v lab' := by
 rcases h with h | ⟨b, off, cap, news, h1, h2, h3⟩
 ·exact .inl h
 ·exact .inr ⟨b, off, cap, news, h1, fun p u hu => ⟨(hS _ _ (h2 p u hu).2).2.trans (h2 p u hu).1, (hS _ _ (h2 p u hu).2).1⟩, h3.move hS hl⟩
def O.IsT (x : O) (t : Ty) (xs : List t.den) : Prop := x = .tree t xs \/ (∃ i, x = .part t xs i) \/ x = .seg t xs
theorem O.IsT.adK {x : O} {t : Ty} {xs : List t.den} (h : x.IsT t xs) : x.fB = .own t xs true true := by
 rcases h with rfl | ⟨i, rfl⟩ | rfl <;> rfl
theorem O.Gy {x : O} {t : Ty} {xs : List t.den} {deep m : Bool} (h : x.pO = .own t xs deep m) (t2 : Ty) (xs2 : List t2.den) (d2 m2 : Bool) : x.yG.fB ≠ .own t2 xs2 d2 m2 := by
 cases x <;> simp [O.pO, O.yG, O.fB] at h ⊢
def qB (G : Gh) (w : World) (k j : Nat) : O -> Prop
 | .dead => True
 | .own t xs deep m => OwT w G.S deep m t xs (G.ov k j) (eH G k j)
 | .ro t xs => Rep w G.S (.list t xs) (G.ov k j)
 | .tree t xs => ∃ fp : Nat -> Prop, (∀ b, fp b -> eH G k j b) /\ Ow w (fun _ _ => False) true (.list t xs) (G.ov k j) fp /\ ∀ b o, G.S b o -> ¬ fp b
 | .part t xs i => gu w G.S t xs i (G.ov k j) (eH G k j)
 | .seg t xs => vK w G.S t xs (G.ov k j) (eH G k j)
def BoxOk (G : Gh) (w : World) (i : Nat) (cs : List C) : Prop :=
 G.ow (G.bk i) = some (.box i) /\ ∃ (vs : List Value) (E : TypeId), w.heap[G.bk i]? = some (.cells vs.toArray E (0, 0)) /\ bY G w cs vs
structure Bs where
 w : World
 S0 : Nat -> Nat -> Prop
 F : Nat -> Prop
 bx : Option Nat
structure lS (F : Nat -> Prop) (B : Nat) (w w' : World) : Prop where
 os : w'.os = w.os
 tape : w'.tape = w.tape
 output : w'.output = w.output
 size : w.heap.size <= w'.heap.size
 block : ∀ k, k < B -> ¬ F k -> w'.heap[k]? = w.heap[k]?
theorem lS.trans {F : Nat -> Prop} {B : Nat} {a b c : World} (h : lS F B a b) (k : lS F B b c) : lS F B a c :=
 ⟨k.os.trans h.os, k.tape.trans h.tape, k.output.trans h.output, Nat.le_trans h.size k.size, fun i hi hf => (k.block i hi hf).trans (h.block i hi hf)⟩
theorem lS.FZ {F : Nat -> Prop} {B : Nat} {w w' : World} (h : Below w.heap.size w w') (hB : B <= w.heap.size) : lS F B w w' := ⟨h.os, h.tape, h.output, h.size, fun k hk _ => h.block k (Nat.lt_of_lt_of_le hk hB)⟩
theorem lS.FU {F : Nat -> Prop} {B : Nat} {w w' : World} (h : lS F B w w') (hF : ∀ c, ¬ F c) : Below B w w' := ⟨h.os, h.tape, h.output, h.size, fun k hk => h.block k hk (hF k)⟩
theorem lS.refl (F : Nat -> Prop) (B : Nat) (w : World) : lS F B w w := ⟨rfl, rfl, rfl, Nat.le_refl _, fun _ _ _ => rfl⟩
structure jX (w0 : Bs) : Prop where
 keep : ∀ w', lS w0.F w0.w.heap.size w0.w w' -> amb w'
 rows : ∀ c, w0.F c -> oD <= c
theorem jX.none {w : World} {S : Nat -> Nat -> Prop} (h : amb w) : jX ⟨w, S, fun _ => False, .none⟩ :=
 ⟨fun _ ho => h.keep ho.size fun k hk => ho.block k (Nat.lt_of_lt_of_le hk h.size) fun hf => hf, fun _ hf => hf.elim⟩
theorem jX.box {w : World} {S : Nat -> Nat -> Prop} {bb : Nat} (h : amb w) (hb : oD <= bb) : jX ⟨w, S, fun c => c = bb, some bb⟩ :=
 ⟨fun _ ho => h.keep ho.size fun k hk => ho.block k (Nat.lt_of_lt_of_le hk h.size) fun hf => by have : k = bb := hf; omega, fun c hf => by have : c = bb := hf; omega⟩
theorem jX.base {w0 : Bs} (h : jX w0) : oD <= w0.w.heap.size := (h.keep w0.w (lS.refl _ _ _)).size
theorem Gu (t : Ty) (x : t.den) : (t.cells x).map ji = t.tys := by
 cases t with
 | base b => cases b <;> rfl
 | list t => rfl
theorem Base.lW (b : Base) (x : b.den) : b.dJ (b.cells x) = some x := by
 cases b <;> first | rfl | (cases x; rfl) | (obtain ⟨_, _, _, _, ⟨⟩⟩ := x <;> rfl) | (obtain ⟨_, ⟨⟩⟩ := x <;> rfl) | (obtain ⟨_, _, _, _, ⟨⟩, _⟩ := x <;> rfl) | (obtain ⟨_, _, ⟨⟩, ⟨⟩, _⟩ := x <;> rfl)
theorem Ty.lW (t : Ty) (x : t.den) : t.dJ (t.cells x) = some x := by
 cases t with
 | base b => exact Base.lW b x
 | list t => simp [Ty.dJ, Ty.cells, D.dQ]
def qC (w w' : World) (b : Nat) : Prop := ∀ (vs : List Value) (E : TypeId), w.heap[b]? = some (.cells vs.toArray E (0, 0)) ->
 ∃ (vs' : List Value) (E' : TypeId), w'.heap[b]? = some (.cells vs'.toArray E' (0, 0)) /\ ∀ (i : Nat) p l c, vs[i]? = some (Value.slice p l c) -> vs'[i]? = some (Value.slice p l c)
theorem qC.refl (w : World) (b : Nat) : qC w w b := fun vs E h => ⟨vs, E, h, fun _ _ _ _ h => h⟩
theorem qC.trans {a b c : World} {k : Nat} (h : qC a b k) (h' : qC b c k) : qC a c k := fun vs E e =>
 have ⟨vs1, E1, e1, k1⟩ := h vs E e
 have ⟨vs2, E2, e2, k2⟩ := h' vs1 E1 e1
 ⟨vs2, E2, e2, fun i p l c hh => k2 i p l c (k1 i p l c hh)⟩
theorem qC.same {a b c : World} {k : Nat} (h : qC a b k) (e : c.heap[k]? = b.heap[k]?) : qC a c k := fun vs E e0 =>
 have ⟨vs1, E1, e1, k1⟩ := h vs E e0
 ⟨vs1, E1, e.trans e1, k1⟩
theorem Rep.det {w : World} {S S' : Nat -> Nat -> Prop} {d d' : D} {v : Value} (h : Rep w S d v) (h' : Rep w S' d' v) (e : ji d = ji d') : d = d' := by
 induction h generalizing d' with
 | int k n => cases h'; rfl
 | bool b => cases h'; rfl
 | str v => cases h'; rfl
 | nil t => cases h'; cases e; rfl
 | emp t a cap =>
  generalize hv : Value.slice (some a) 0 cap = v at h'
  cases h' with
  | emp t' a' cap' => cases e; rfl
  | list t' xs' b off cap' vs hcap hc hr =>
   cases e
   have : 0 = xs'.length := by injection hv
   rw [List.length_eq_zero_iff.1 this.symm]
  | _ => cases hv
 | list t xs b off cap vs hcap hc hr ih =>
  generalize hv : Value.slice (some ⟨b, off, none⟩) xs.length cap = v at h'
  cases h' with
  | emp t' a' cap' =>
   cases e
   have : xs.length = 0 := by injection hv
   rw [List.length_eq_zero_iff.1 this]
  | list t' xs' b' off' cap' vs' hcap' hc' hr' =>
   cases e
   injection hv with e1 e2 e3
   injection e1 with e1
   injection e1 with e1 e4
   subst e1; subst e4
   have : xs = xs' := List.ext_getElem e2 fun i h1 h2 => by
    have hcells : t.cells xs[i] = t.cells xs'[i] := List.ext_getElem (by rw [Ty.aQ, Ty.aQ]) fun j j1 j2 => by
     have hx : xs[i]? = some xs[i] := by simp [h1]
     have hx' : xs'[i]? = some xs'[i] := by simp [h2]
     have hd : (t.cells xs[i])[j]? = some (t.cells xs[i])[j] := by simp [j1]
     have hd' : (t.cells xs'[i])[j]? = some (t.cells xs'[i])[j] := by simp [j2]
     have q1 := (hc i _ j _ hx hd).1
     have q2 := (hc' i _ j _ hx' hd').1
     have q3 : vs i j = vs' i j := Option.some.inj (q1.symm.trans q2)
     have q4 := hr' i _ j _ hx' hd'
     rw [<- q3] at q4
     refine ih i _ j _ hx hd q4 ?_
     have t1 := congrArg (fun l => l[j]?) ((Gu t xs[i]).trans (Gu t xs'[i]).symm)
     simp only [List.getElem?_map, hd, hd', Option.map_some, zD] at t1
     exact t1
    have z1 := Ty.lW t xs[i]
    rw [hcells, Ty.lW] at z1
    exact (Option.some.inj z1).symm
   rw [this]
  | _ => cases hv
structure Inv (w0 : Bs) (G : Gh) (S : St) (a : Act) (w : World) : Prop where
 below : lS w0.F w0.w.heap.size w0.w w
 nodef : a.defers = []
 tsz : a.tmps.size = S.tmps.length
 bsz : S.boxes.length = S.tmps.length
 osz : S.owns.length = S.tmps.length
 tmps : ∀ i v, a.tmps[i]? = some v -> iE G w (S.gq i) v
 olt : ∀ b x, G.ow b = some x -> (w0.w.heap.size <= b \/ x = .box 0 /\ w0.F b) /\ b < w.heap.size
 sok : ∀ b o, G.S b o -> b < w.heap.size /\ ∀ i, G.ow b ≠ some (.box i)
 box : ∀ i cs, S.dP i = some cs -> BoxOk G w i cs
 owns : ∀ k j, qB G w k j (aU (S.aC k) j)
 lk : ∀ k, G.lk k -> S.aC k ≠ []
 lb : ∀ i, G.lb i -> S.dP i ≠ none
 sfr : ∀ b o, G.S b o -> b < w0.w.heap.size -> w0.S0 b o
 fx : ∀ b, w0.bx = some b -> G.bk 0 = b /\ (b < w0.w.heap.size -> qC w0.w w b)
structure Mv (G G' : Gh) (w w' : World) : Prop where
 s : ∀ b o, G.S b o -> G'.S b o /\ w'.cell? ⟨b, o, none⟩ = w.cell? ⟨b, o, none⟩
 k : ∀ k, G.lk k -> G'.lk k /\ ∀ j, G'.ov k j = G.ov k j
 b : ∀ i, G.lb i -> G'.lb i /\ G'.bk i = G.bk i
theorem kY.move {G G' : Gh} {w w' : World} (hm : Mv G G' w w') {c : C} {v : Value} (h : kY G w c v) : kY G' w' c v := by
 cases c with
 | undef => exact h
 | d x => exact Rep.move h hm.s
 | nil => exact h
 | own k j => exact ⟨(hm.k k h.1).1, by rw [(hm.k k h.1).2 j]; exact h.2.1, h.2.2⟩
 | ptr b off => exact ⟨(hm.b b h.1).1, by rw [(hm.b b h.1).2]; exact h.2⟩
theorem bY.get {G : Gh} {w : World} : ∀ {cs : List C} {vs : List Value}, bY G w cs vs -> cs.length = vs.length /\ ∀ (i : Nat) (c : C) (v : Value), cs[i]? = some c -> vs[i]? = some v -> kY G w c v
 | [], [], _ => ⟨rfl, fun i c v h => by simp at h⟩
 | c :: cs, v :: vs, h => by
  obtain ⟨h1, h2⟩ := h
  obtain ⟨hl, hg⟩ := bY.get h2
  refine ⟨by simp [hl], fun i c' v' hc hv => ?_⟩
  cases i with
  | zero => simp at hc hv; subst hc; subst hv; exact h1
  | succ i => simp at hc hv; exact hg i c' v' hc hv
theorem bY.mk {G : Gh} {w : World} : ∀ {cs : List C} {vs : List Value}, cs.length = vs.length -> (∀ (i : Nat) (c : C) (v : Value), cs[i]? = some c -> vs[i]? = some v -> kY G w c v) -> bY G w cs vs
 | [], [], _, _ => trivial
 | c :: cs, v :: vs, hl, h => ⟨h 0 c v rfl rfl, bY.mk (by simpa using hl) fun i c' v' hc hv => h (i + 1) c' v' (by simpa using hc) (by simpa using hv)⟩
theorem bY.move {G G' : Gh} {w w' : World} (hm : Mv G G' w w') {cs : List C} {vs : List Value} (h : bY G w cs vs) : bY G' w' cs vs := by
 obtain ⟨hl, hg⟩ := h.get
 exact bY.mk hl fun i c v hc hv => (hg i c v hc hv).move hm
theorem bY.one {G : Gh} {w : World} {cs : List C} {vs : List Value} (h : bY G w cs vs) : ∀ v, v ∈ vs -> v.oneCell' = true := by
 obtain ⟨hl, hg⟩ := h.get
 intro v hv
 obtain ⟨i, hi, rfl⟩ := List.mem_iff_getElem.1 hv
 have hc : i < cs.length := by omega
 exact (hg i cs[i] vs[i] (by simp [hc]) (by simp [hi])).one
theorem pR.move {G G' : Gh} {w w' : World} (hm : Mv G G' w w') {x : V} {v : Value} (h : pR G w x v) : pR G' w' x v := by
 cases x with
 | one c => exact kY.move hm h
 | agg cs => obtain ⟨vs, hv, hc⟩ := h; exact ⟨vs, hv, hc.move hm⟩
theorem kL.move {G G' : Gh} {w w' : World} (hm : Mv G G' w w') : ∀ {xs : List V} {vs : List Value}, kL G w xs vs -> kL G' w' xs vs
 | [], [], _ => trivial
 | _ :: _, _ :: _, h => ⟨h.1.move hm, kL.move hm h.2⟩
theorem Qe.move {G G' : Gh} {w w' : World} (hm : Mv G G' w w') {t : Ty} {x : t.den} {b o : Nat} (h : Qe G w t x b o) : Qe G' w' t x b o := by
 obtain ⟨vs, h⟩ := h
 refine ⟨vs, fun j d hd => ?_⟩
 obtain ⟨h1, h2, h3⟩ := h j d hd
 exact ⟨(hm.s _ _ h2).2.trans h1, (hm.s _ _ h2).1, h3.move hm.s⟩
theorem iE.move {G G' : Gh} {w w' : World} (hm : Mv G G' w w') {x : AV} {v : Value} (h : iE G w x v) : iE G' w' x v := by
 cases x with
 | undef => trivial
 | v x => exact pR.move hm h
 | elt t x off => obtain ⟨b, o, hv, he⟩ := h; exact ⟨b, o, hv, he.move hm⟩
 | oelt k j i sz off => obtain ⟨hk, b, len, cap, ho, hv⟩ := h; exact ⟨(hm.k k hk).1, b, len, cap, by rw [(hm.k k hk).2 j]; exact ho, hv⟩
 | cut t len n k1 k2 =>
  obtain ⟨h1, h2, h3⟩ := h
  refine ⟨(hm.k k1 h1).1, (hm.k k2 h2).1, ?_⟩
  rw [(hm.k k1 h1).2 0, (hm.k k2 h2).2 0]
  exact h3
 | seg k => exact ⟨(hm.k k h.1).1, by rw [(hm.k k h.1).2 0]; exact h.2⟩
 | pre k j n => exact ⟨(hm.k k h.1).1, by rw [(hm.k k h.1).2 j]; exact h.2⟩
 | suf t k j m => exact ⟨(hm.k k h.1).1, by rw [(hm.k k h.1).2 j]; exact h.2⟩
 | tup vs => obtain ⟨us, hv, hs⟩ := h; exact ⟨us, hv, hs.move hm⟩
theorem OwT.move {w w' : World} {S S' : Nat -> Nat -> Prop} {deep m : Bool} {t : Ty} {xs : List t.den} {v : Value} {fp fp' : Nat -> Prop} (h : OwT w S deep m t xs v fp)
  (hS : ∀ b o, S b o -> S' b o /\ w'.cell? ⟨b, o, none⟩ = w.cell? ⟨b, o, none⟩) (hfp : ∀ b, fp b -> fp' b /\ w'.heap[b]? = w.heap[b]?)
  (hT : ∀ b len cap, v = .slice (some ⟨b, 0, none⟩) len cap -> fp b -> ∀ o, S' b o -> S b o \/ (m = false /\ o < xs.length * t.size)) : OwT w' S' deep m t xs v fp' := by
 rcases h with h | ⟨b, cap, arr, E, vs, fps, rfl, hb, hcap, hmax, hsz, hfb, hc, hr, hf, hdis, hs⟩
 ·exact .inl h
 ·refine .inr ⟨b, cap, arr, E, vs, fps, rfl, (hfp b hfb).2.trans hb, hcap, hmax, hsz, (hfp b hfb).1, hc, ?_, ?_, hdis, ?_⟩
  ·exact fun i x j d hx hd => (hr i x j d hx hd).move hS fun c hcc => (hfp c (hf i j c hcc).1).2
  ·exact fun i j c hcc => ⟨(hfp c (hf i j c hcc).1).1, (hf i j c hcc).2⟩
  ·intro o ho
   rcases hT b _ _ rfl hfb o ho with h | h
   ·exact hs o h
   ·exact h
theorem MZ (S : St) (i : Nat) (v : AV) (j : Nat) : (S.fU i v).gq j = if i = j /\ i < S.tmps.length then v else S.gq j := by
 simp only [St.gq, St.fU, zE, List.getElem?_set]
 by_cases h : i = j
 ·subst h
  by_cases hl : i < S.tmps.length <;> simp [hl]
 ·simp [h]
theorem X6 (S : St) (i : Nat) (v : Option (List C)) (j : Nat) : (S.setB i v).aC j = S.aC j := rfl
theorem iM (S : St) (i : Nat) (v : Option (List C)) (j : Nat) : (S.setB i v).dP j = if i = j /\ i < S.boxes.length then v else S.dP j := by
 simp only [St.dP, St.setB, zE, List.getElem?_set]
 by_cases h : i = j
 ·subst h
  by_cases hl : i < S.boxes.length <;> simp [hl]
 ·simp [h]
theorem aY (S : St) (i : Nat) (v : List O) (j : Nat) : (S.bM i v).aC j = if i = j /\ i < S.owns.length then v else S.aC j := by
 simp only [St.aC, St.bM, zE, List.getElem?_set]
 by_cases h : i = j
 ·subst h
  by_cases hl : i < S.owns.length <;> simp [hl]
 ·simp [h]
section steps
variable {w0 : Bs} {G : Gh} {S : St} {a : Act} {w : World}
theorem Inv.kz (h : Inv w0 G S a w) {b k j : Nat} (hb : G.ow b = some (.own k j)) : w0.w.heap.size <= b /\ b < w.heap.size := by
 obtain ⟨h1, h2⟩ := h.olt b _ hb
 rcases h1 with h1 | ⟨hi, _⟩
 ·exact ⟨h1, h2⟩
 ·cases hi
theorem Inv.fU (h : Inv w0 G S a w) (d : Nat) {av : AV} {v : Value} (hv : iE G w av v) : Inv w0 G (S.fU d av) (a.put (some d) v) w := by
 refine ⟨h.below, h.nodef, ?_, by simp [St.fU, h.bsz], by simp [St.fU, h.osz], ?_, h.olt, h.sok, fun i cs hb => h.box i cs hb, fun k j => h.owns k j, fun k hk => h.lk k hk, fun i hi => h.lb i hi, h.sfr, h.fx⟩
 ·simp [Act.put, St.fU, h.tsz]
 ·intro i u hu
  rw [MZ]
  simp only [Act.put, Array.getElem?_setIfInBounds] at hu
  by_cases hd : d = i
  ·subst hd
   by_cases hl : d < a.tmps.size
   ·simp [hl] at hu; subst hu
    have : d < S.tmps.length := h.tsz ▸ hl
    simp [this]; exact hv
   ·simp [hl] at hu
  ·simp [hd] at hu ⊢
   exact h.tmps i u hu
theorem Inv.grow (h : Inv w0 G S a w) {w' : World} (hb : Below w.heap.size w w') : Inv w0 G S a w' := by
 have hsz := hb.size
 have hcell : ∀ b o, b < w.heap.size -> w'.cell? ⟨b, o, none⟩ = w.cell? ⟨b, o, none⟩ := fun b o hl => hb.cell (p := ⟨b, o, none⟩) hl
 have hm : Mv G G w w' := ⟨fun b o hs => ⟨hs, hcell b o (h.sok b o hs).1⟩, fun k hk => ⟨hk, fun _ => rfl⟩, fun i hi => ⟨hi, rfl⟩⟩
 refine ⟨h.below.trans (.FZ hb h.below.size), h.nodef, h.tsz, h.bsz, h.osz, fun i v hv => (h.tmps i v hv).move hm, fun b x hx => ⟨(h.olt b x hx).1, by have := (h.olt b x hx).2; omega⟩,
  fun b o hs => ⟨by have := (h.sok b o hs).1; omega, (h.sok b o hs).2⟩, ?_, ?_, h.lk, h.lb, h.sfr, fun b hx => ⟨(h.fx b hx).1, fun hl => ((h.fx b hx).2 hl).same (hb.block b (Nat.lt_of_lt_of_le hl h.below.size))⟩⟩
 ·intro i cs hcs
  obtain ⟨ho, vs, E, hh, hc⟩ := h.box i cs hcs
  exact ⟨ho, vs, E, (hb.block _ (h.olt _ _ ho).2).trans hh, hc.move hm⟩
 ·intro k j
  have := h.owns k j
  revert this
  generalize aU (S.aC k) j = x
  intro hx
  cases x with
  | dead => trivial
  | own t xs deep m => exact OwT.move hx hm.s (fun b hb' => ⟨hb', hb.block _ (h.olt _ _ hb').2⟩) (fun _ _ _ _ _ o ho => .inl ho)
  | ro t xs => exact Rep.move hx hm.s
  | tree t xs =>
   obtain ⟨fp, h1, h2, h3⟩ := hx
   exact ⟨fp, h1, h2.move (fun _ _ h => h.elim) fun b hb' => hb.block _ (h.olt _ _ (h1 b hb')).2, h3⟩
  | part t xs i => exact gu.move hx (fun b hb' => ⟨hb', hb.block _ (h.olt _ _ hb').2⟩) fun _ _ _ h => h
  | seg t xs => exact vK.move hx hm.s fun b hb' => ⟨hb', hb.block _ (h.olt _ _ hb').2⟩
end steps
end Go.Abs
namespace Go.Abs
open Go.RowKit
theorem fJ (os : List O) (j : Nat) (x : O) (j' : Nat) : aU (os.set j x) j' = if j = j' /\ j < os.length then x else aU os j' := by
 simp only [aU, zE, List.getElem?_set]
 by_cases h : j = j'
 ·subst h
  by_cases hl : j < os.length <;> simp [hl]
 ·simp [h]
theorem Bv {S : St} {a : Act} {d : Nat} {v : Value} (ht : a.tmps.size = S.tmps.length) (hd : ¬ d < S.tmps.length) : a.put (some d) v = a := by
 simp only [Act.put]
 rw [Array.setIfInBounds_eq_of_size_le (by omega)]
theorem vY {S : St} {d : Nat} {v : AV} (hd : ¬ d < S.tmps.length) : S.fU d v = S := by
 cases S; simp only [St.fU] at *; rw [List.set_eq_of_length_le (by omega)]
theorem YF {S : St} {d : Nat} {v : Option (List C)} (hd : ¬ d < S.boxes.length) : S.setB d v = S := by
 cases S; simp only [St.setB] at *; rw [List.set_eq_of_length_le (by omega)]
theorem vZ {S : St} {d : Nat} {v : List O} (hd : ¬ d < S.owns.length) : S.bM d v = S := by
 cases S; simp only [St.bM] at *; rw [List.set_eq_of_length_le (by omega)]
section steps
variable {w0 : Bs} {G : Gh} {S : St} {a : Act} {w : World}
theorem qB.same {G' : Gh} {w' : World} {k j : Nat} {x : O} (h : qB G w k j x) (hov : G'.ov k j = G.ov k j)
  (hS : ∀ b o, G.S b o -> G'.S b o /\ w'.cell? ⟨b, o, none⟩ = w.cell? ⟨b, o, none⟩)
  (hown : ∀ t xs deep m, x = .own t xs deep m -> (∀ b, eH G k j b -> eH G' k j b /\ w'.heap[b]? = w.heap[b]?) /\
   ∀ b len cap, G.ov k j = .slice (some ⟨b, 0, none⟩) len cap -> eH G k j b -> ∀ o, G'.S b o -> G.S b o \/ (m = false /\ o < xs.length * t.size))
  (htree : ∀ t xs, x.IsT t xs -> ∀ b, eH G k j b -> eH G' k j b /\ w'.heap[b]? = w.heap[b]? /\ ∀ o, G'.S b o -> G.S b o) : qB G' w' k j x := by
 cases x with
 | dead => trivial
 | own t xs deep m =>
  obtain ⟨h1, h2⟩ := hown t xs deep m rfl
  show OwT w' G'.S deep m t xs (G'.ov k j) (eH G' k j)
  rw [hov]
  exact OwT.move h hS h1 h2
 | ro t xs =>
  show Rep w' G'.S (.list t xs) (G'.ov k j)
  rw [hov]
  exact Rep.move h hS
 | tree t xs =>
  obtain ⟨fp, h1, h2, h3⟩ := h
  have hh := htree t xs (.inl rfl)
  refine ⟨fp, fun b hb => (hh b (h1 b hb)).1, ?_, fun b o hs hb => h3 b o ((hh b (h1 b hb)).2.2 o hs) hb⟩
  rw [hov]
  exact h2.move (fun _ _ h => h.elim) fun b hb => (hh b (h1 b hb)).2.1
 | part t xs i =>
  have hh := htree t xs (.inr (.inl ⟨i, rfl⟩))
  show gu w' G'.S t xs i (G'.ov k j) (eH G' k j)
  rw [hov]
  exact gu.move h (fun b hb => ⟨(hh b hb).1, (hh b hb).2.1⟩) fun b o hb hs => (hh b hb).2.2 o hs
 | seg t xs =>
  have hh := htree t xs (.inr (.inr rfl))
  show vK w' G'.S t xs (G'.ov k j) (eH G' k j)
  rw [hov]
  exact vK.move h hS fun b hb => ⟨(hh b hb).1, (hh b hb).2.1⟩
theorem Inv.Vp (h : Inv w0 G S a w) (A : Nat -> Nat -> Prop)
  (hA : ∀ b o, A b o -> b < w.heap.size /\ (∀ i, G.ow b ≠ some (.box i)) /\ ∀ k j t xs deep m, aU (S.aC k) j = .own t xs deep m ->
   ∀ len cap, G.ov k j = .slice (some ⟨b, 0, none⟩) len cap -> G.ow b = some (.own k j) -> m = false /\ o < xs.length * t.size)
  (hA0 : ∀ b o, A b o -> w0.w.heap.size <= b) (hAT : ∀ b o, A b o -> ∀ k j t xs, (aU (S.aC k) j).IsT t xs -> G.ow b ≠ some (.own k j)) : Inv w0 { G with S := fun b o => G.S b o \/ A b o } S a w /\ Mv G { G with S := fun b o => G.S b o \/ A b o } w w := by
 have hm : Mv G { G with S := fun b o => G.S b o \/ A b o } w w := ⟨fun b o hs => ⟨.inl hs, rfl⟩, fun k hk => ⟨hk, fun _ => rfl⟩, fun i hi => ⟨hi, rfl⟩⟩
 refine ⟨⟨h.below, h.nodef, h.tsz, h.bsz, h.osz, fun i v hv => (h.tmps i v hv).move hm, h.olt, ?_, ?_, ?_, h.lk, h.lb, fun b o hs hl => hs.elim (fun hs => h.sfr b o hs hl) fun hs => absurd (hA0 b o hs) (by omega), h.fx⟩, hm⟩
 ·intro b o hs
  rcases hs with hs | hs
  ·exact h.sok b o hs
  ·exact ⟨(hA b o hs).1, (hA b o hs).2.1⟩
 ·intro i cs hcs
  obtain ⟨ho, vs, E, hh, hc⟩ := h.box i cs hcs
  exact ⟨ho, vs, E, hh, hc.move hm⟩
 ·intro k j
  refine (h.owns k j).same rfl hm.s (fun t xs deep m hx => ⟨fun b hb => ⟨hb, rfl⟩, fun b len cap hv hb o hs => ?_⟩) fun t xs hx b hb => ⟨hb, rfl, fun o hs => ?_⟩
  ·rcases hs with hs | hs
   ·exact .inl hs
   ·exact .inr ((hA b o hs).2.2 k j t xs deep m hx len cap hv hb)
  ·rcases hs with hs | hs
   ·exact hs
   ·exact absurd hb (hAT b o hs k j t xs hx)
theorem Inv.uq (h : Inv w0 G S a w) (i b : Nat) (hi0 : i ≠ 0) (hi : S.dP i = none) (hb0 : w0.w.heap.size <= b) (how : G.ow b = none) (hS : ∀ o, ¬ G.S b o)
  {cs : List C} {vs : List Value} {E : TypeId} (hh : w.heap[b]? = some (.cells vs.toArray E (0, 0))) (hc : bY G w cs vs) :
  ∃ G', Inv w0 G' ((S.setB i (some cs)).fU i (.v (.one (.ptr i 0)))) (a.put (some i) (.pointer (some ⟨b, 0, none⟩))) w := by
 have hlt : b < w.heap.size := (Array.getElem?_eq_some_iff.1 hh).1
 by_cases hil : i < S.tmps.length
 case neg =>
  refine ⟨G, ?_⟩
  rw [Bv h.tsz hil, YF (by rw [h.bsz]; exact hil), vY hil]
  exact h
 have hnl : ¬ G.lb i := fun hl => h.lb i hl hi
 let G' : Gh := { G with bk := fun x => if x = i then b else G.bk x, ow := fun x => if x = b then some (.box i) else G.ow x, lb := fun x => x = i \/ G.lb x }
 have hm : Mv G G' w w := ⟨fun b o hs => ⟨hs, rfl⟩, fun k hk => ⟨hk, fun _ => rfl⟩, fun x hx => ⟨.inr hx, by
  show (if x = i then b else G.bk x) = _
  rw [if_neg (fun e : x = i => hnl (e ▸ hx))]⟩⟩
 have howb : ∀ x y, G.ow x = some y -> G'.ow x = some y := fun x y hx => by
  show (if x = b then some (.box i) else G.ow x) = _
  rw [if_neg (fun e : x = b => by rw [e, how] at hx; cases hx)]; exact hx
 refine ⟨G', ?_⟩
 refine Inv.fU (G := G') (S := S.setB i (some cs)) ?_ i (av := .v (.one (.ptr i 0))) ⟨.inl rfl, ?_⟩
 ·refine ⟨h.below, h.nodef, h.tsz, by simp [St.setB, h.bsz], by simp [St.setB, h.osz], fun x v hv => (h.tmps x v hv).move hm, ?_, ?_, ?_, ?_, h.lk, ?_, h.sfr, fun q hq => by
   refine ⟨?_, (h.fx q hq).2⟩
   show (if 0 = i then b else G.bk 0) = q
   rw [if_neg (fun e => hi0 e.symm)]; exact (h.fx q hq).1⟩
  ·intro x y hx
   by_cases hxb : x = b
   ·subst hxb; exact ⟨.inl hb0, hlt⟩
   ·have : G.ow x = some y := by
     have hx' : (if x = b then some (vG.box i) else G.ow x) = some y := hx
     rw [if_neg hxb] at hx'; exact hx'
    exact h.olt x y this
  ·intro x o hs
   refine ⟨(h.sok x o hs).1, fun k => ?_⟩
   have hxb : x ≠ b := fun e => hS o (e ▸ hs)
   show (if x = b then some (vG.box i) else G.ow x) ≠ _
   rw [if_neg hxb]; exact (h.sok x o hs).2 k
  ·intro x cs' hcs'
   rw [iM] at hcs'
   by_cases hxi : i = x
   ·subst hxi
    rw [if_pos ⟨rfl, by rw [h.bsz]; exact hil⟩] at hcs'
    cases hcs'
    refine ⟨?_, vs, E, ?_, hc.move hm⟩
    ·show (if (if i = i then b else G.bk i) = b then some (vG.box i) else _) = _
     simp
    ·show w.heap[if i = i then b else G.bk i]? = _
     simpa using hh
   ·rw [if_neg (fun e => hxi e.1)] at hcs'
    obtain ⟨ho, vs', E', hh', hc'⟩ := h.box x cs' hcs'
    have hbk : G'.bk x = G.bk x := by show (if x = i then b else G.bk x) = _; rw [if_neg (fun e => hxi e.symm)]
    exact ⟨by rw [hbk]; exact howb _ _ ho, vs', E', by rw [hbk]; exact hh', hc'.move hm⟩
  ·intro k j
   refine (h.owns k j).same rfl hm.s (fun t xs deep m hx => ⟨fun c hc' => ⟨howb _ _ hc', rfl⟩, fun _ _ _ _ _ o hs => .inl hs⟩) fun t xs hx c hc' => ⟨howb _ _ hc', rfl, fun o hs => hs⟩
  ·intro x hx
   rw [iM]
   by_cases hxi : i = x
   ·rw [if_pos ⟨hxi, by rw [h.bsz]; exact hil⟩]; simp
   ·rw [if_neg (fun e => hxi e.1)]
    rcases hx with hx | hx
    ·exact absurd hx.symm hxi
    ·exact h.lb x hx
 ·show Value.pointer _ = .pointer (some ⟨if i = i then b else G.bk i, 0, none⟩)
  simp
theorem Inv.adH (h : Inv w0 G S a w) (i : Nat) {cs cs' : List C} (hi : S.dP i = some cs) {vs' : List Value} (hc : bY G w cs' vs') (hkeep : i = 0 -> ∀ (vs : List Value) (E : TypeId), w.heap[G.bk i]? = some (.cells vs.toArray E (0, 0)) -> ∀ (n : Nat) p l c, vs[n]? = some (Value.slice p l c) -> vs'[n]? = some (Value.slice p l c)) :
  Inv w0 G (S.setB i (some cs')) a (w.setRow (G.bk i) vs'.toArray) := by
 obtain ⟨ho, vs, E, hh, _⟩ := h.box i cs hi
 have hlt := h.olt _ _ ho
 have hoth : ∀ b, b ≠ G.bk i -> (w.setRow (G.bk i) vs'.toArray).heap[b]? = w.heap[b]? := fun b hb => setRow_other w _ b _ hb
 have hcell : ∀ b o, G.S b o -> (w.setRow (G.bk i) vs'.toArray).cell? ⟨b, o, none⟩ = w.cell? ⟨b, o, none⟩ := fun b o hs =>
  World.cell?_of_block (w := w) (hoth b fun e => (h.sok b o hs).2 i (e ▸ ho))
 have hm : Mv G G w (w.setRow (G.bk i) vs'.toArray) := ⟨fun b o hs => ⟨hs, hcell b o hs⟩, fun k hk => ⟨hk, fun _ => rfl⟩, fun i hi => ⟨hi, rfl⟩⟩
 have hilt : i < S.boxes.length := by
  rcases Nat.lt_or_ge i S.boxes.length with hl | hl
  ·exact hl
  ·simp [St.dP, zE, zJ hl] at hi
 refine ⟨h.below.trans ⟨rfl, rfl, rfl, by simp, fun k hk hnF => hoth k (fun e => by
  subst e
  rcases hlt.1 with h1 | ⟨_, h1⟩
  ·omega
  ·exact hnF h1)⟩, h.nodef, h.tsz, by simp [St.setB, h.bsz], by simp [St.setB, h.osz], fun x v hv => (h.tmps x v hv).move hm, ?_, ?_, ?_, ?_, h.lk, ?_, h.sfr, fun b hx => ⟨(h.fx b hx).1, fun hl => by
   by_cases eb : b = G.bk i
   ·subst eb
    rcases hlt.1 with h1 | ⟨h1, _⟩
    ·omega
    ·injection h1 with h1
     exact ((h.fx _ hx).2 hl).trans fun vs0 E0 e0 => ⟨vs', E0, setRow_heap w _ _ _ E0 (0, 0) e0, hkeep h1 vs0 E0 e0⟩
   ·exact ((h.fx b hx).2 hl).same (hoth b eb)⟩⟩
 ·intro x y hx; simpa using h.olt x y hx
 ·intro x o hs; simpa using h.sok x o hs
 ·intro x cs'' hcs''
  rw [iM] at hcs''
  by_cases hxi : i = x
  ·subst hxi
   rw [if_pos ⟨rfl, hilt⟩] at hcs''
   cases hcs''
   exact ⟨ho, vs', E, setRow_heap w _ _ _ E (0, 0) hh, hc.move hm⟩
  ·rw [if_neg (fun e => hxi e.1)] at hcs''
   obtain ⟨ho', vs'', E', hh', hc'⟩ := h.box x cs'' hcs''
   refine ⟨ho', vs'', E', (hoth _ fun e => ?_).trans hh', hc'.move hm⟩
   rw [e, ho] at ho'
   cases ho'
   exact hxi rfl
 ·intro k j
  have keep : ∀ c, eH G k j c -> eH G k j c /\ (w.setRow (G.bk i) vs'.toArray).heap[c]? = w.heap[c]? := fun c hc' => ⟨hc', hoth c fun e => by
   have hc'' : G.ow c = some (.own k j) := hc'
   rw [e, ho] at hc''
   cases hc''⟩
  exact (h.owns k j).same rfl hm.s (fun t xs deep m hx => ⟨keep, fun _ _ _ _ _ o hs => .inl hs⟩) fun t xs hx c hc => ⟨(keep c hc).1, (keep c hc).2, fun o hs => hs⟩
 ·intro x hx
  rw [iM]
  by_cases hxi : i = x
  ·rw [if_pos ⟨hxi, hilt⟩]; simp
  ·rw [if_neg (fun e => hxi e.1)]; exact h.lb x hx
theorem Inv.AB (h : Inv w0 G S a w) (k j : Nat) (x : O) (hx : qB G w k j x) : Inv w0 G (S.bM k ((S.aC k).set j x)) a w := by
 refine ⟨h.below, h.nodef, h.tsz, by simp [St.bM, h.bsz], by simp [St.bM, h.osz], h.tmps, h.olt, h.sok, h.box, ?_, ?_, h.lb, h.sfr, h.fx⟩
 ·intro k' j'
  rw [aY]
  by_cases hk : k = k' /\ k < S.owns.length
  ·rw [if_pos hk, fJ]
   by_cases hj : j = j' /\ j < (S.aC k).length
   ·rw [if_pos hj]; obtain ⟨rfl, _⟩ := hk; obtain ⟨rfl, _⟩ := hj; exact hx
   ·rw [if_neg hj]; obtain ⟨rfl, _⟩ := hk; exact h.owns k j'
  ·rw [if_neg hk]; exact h.owns k' j'
 ·intro k' hk'
  rw [aY]
  by_cases hk : k = k' /\ k < S.owns.length
  ·rw [if_pos hk]
   intro e
   have : (S.aC k).length = 0 := by simpa using congrArg List.length e
   exact h.lk k' hk' (by rw [<- hk.1]; exact List.eq_nil_of_length_eq_zero this)
  ·rw [if_neg hk]; exact h.lk k' hk'
theorem Inv.VG (h : Inv w0 G S a w) (b : Nat) {w' : World} (hb0 : w0.w.heap.size <= b) (hbox : ∀ i, G.ow b ≠ some (.box i))
  (hdead : ∀ k j t xs deep m, G.ow b = some (.own k j) -> (aU (S.aC k) j).fB ≠ .own t xs deep m)
  (hos : w'.os = w.os) (htape : w'.tape = w.tape) (hout : w'.output = w.output) (hsz : w.heap.size <= w'.heap.size)
  (hoth : ∀ c, c < w.heap.size -> c ≠ b -> w'.heap[c]? = w.heap[c]?)
  (hS : ∀ o, G.S b o -> w'.cell? ⟨b, o, none⟩ = w.cell? ⟨b, o, none⟩) : Inv w0 G S a w' := by
 have hm : Mv G G w w' := ⟨fun c o hs => ⟨hs, by
  by_cases hc : c = b
  ·subst hc; exact hS o hs
  ·exact World.cell?_of_block (w := w) (hoth c (h.sok c o hs).1 hc)⟩, fun k hk => ⟨hk, fun _ => rfl⟩, fun i hi => ⟨hi, rfl⟩⟩
 have hw0 := h.below.size
 refine ⟨h.below.trans ⟨hos, htape, hout, hsz, fun k hk _ => hoth k (by omega) (by omega)⟩, h.nodef, h.tsz, h.bsz, h.osz, fun x v hv => (h.tmps x v hv).move hm, ?_, ?_, ?_, ?_, h.lk, h.lb, h.sfr, fun b hx => ⟨(h.fx b hx).1, fun hl => ((h.fx b hx).2 hl).same (hoth b (by omega) (by omega))⟩⟩
 ·intro x y hx; exact ⟨(h.olt x y hx).1, Nat.lt_of_lt_of_le (h.olt x y hx).2 hsz⟩
 ·intro x o hs; exact ⟨Nat.lt_of_lt_of_le (h.sok x o hs).1 hsz, (h.sok x o hs).2⟩
 ·intro x cs hcs
  obtain ⟨ho', vs'', E', hh', hc'⟩ := h.box x cs hcs
  exact ⟨ho', vs'', E', (hoth _ (h.olt _ _ ho').2 fun e => hbox x (e ▸ ho')).trans hh', hc'.move hm⟩
 ·intro k j
  refine (h.owns k j).same rfl hm.s (fun t xs deep m hx => ⟨fun c hc' => ⟨hc', hoth c (h.olt _ _ hc').2 fun e => ?_⟩, fun _ _ _ _ _ o hs => .inl hs⟩) fun t xs hx c hc' => ⟨hc', hoth c (h.olt _ _ hc').2 fun e => ?_, fun o hs => hs⟩
  ·exact hdead k j t xs deep m (e ▸ hc') (by rw [hx]; rfl)
  ·exact hdead k j t xs true true (e ▸ hc') hx.adK
theorem Inv.aeh (h : Inv w0 G S a w) (P : Nat -> Prop) [DecidablePred P] (k j : Nat)
  (hP : ∀ c, P c -> w0.w.heap.size <= c /\ c < w.heap.size /\ (∀ i, G.ow c ≠ some (.box i)) /\ ∀ k' j' t xs deep m, G.ow c = some (.own k' j') -> (k', j') ≠ (k, j) -> (aU (S.aC k') j').fB ≠ .own t xs deep m) :
  Inv w0 { G with ow := fun c => if P c then some (.own k j) else G.ow c } S a w := by
 let G' : Gh := { G with ow := fun c => if P c then some (.own k j) else G.ow c }
 have hm : Mv G G' w w := ⟨fun b o hs => ⟨hs, rfl⟩, fun k hk => ⟨hk, fun _ => rfl⟩, fun x hx => ⟨hx, rfl⟩⟩
 have how : ∀ c, G'.ow c = if P c then some (.own k j) else G.ow c := fun _ => rfl
 refine ⟨h.below, h.nodef, h.tsz, h.bsz, h.osz, fun x v hv => (h.tmps x v hv).move hm, ?_, ?_, ?_, ?_, h.lk, h.lb, h.sfr, h.fx⟩
 ·intro x y hx
  by_cases hp : P x
  ·exact ⟨.inl (hP x hp).1, (hP x hp).2.1⟩
  ·rw [how, if_neg hp] at hx; exact h.olt x y hx
 ·intro x o hs
  refine ⟨(h.sok x o hs).1, fun i => ?_⟩
  rw [how]
  split
  ·simp
  ·exact (h.sok x o hs).2 i
 ·intro x cs hcs
  obtain ⟨ho', vs'', E', hh', hc'⟩ := h.box x cs hcs
  refine ⟨?_, vs'', E', hh', hc'.move hm⟩
  rw [how, if_neg fun hp => (hP _ hp).2.2.1 x ho']
  exact ho'
 ·intro k' j'
  have keep : ∀ t xs deep m, (aU (S.aC k') j').fB = .own t xs deep m -> ∀ c, G.ow c = some (.own k' j') -> G'.ow c = some (.own k' j') := by
   intro t xs deep m hx c hc'
   rw [how]
   split
   ·rename_i hp
    by_cases hk : (k', j') = (k, j)
    ·cases hk; rfl
    ·exact absurd hx ((hP c hp).2.2.2 k' j' t xs deep m hc' hk)
   ·exact hc'
  refine (h.owns k' j').same rfl hm.s (fun t xs deep m hx => ⟨fun c hc' => ⟨keep t xs deep m (by rw [hx]; rfl) c hc', rfl⟩, fun _ _ _ _ _ o hs => .inl hs⟩)
   fun t xs hx c hc' => ⟨keep t xs true true hx.adK c hc', rfl, fun o hs => hs⟩
theorem Inv.rJ (h : Inv w0 G S a w) (d : Nat) (os : List O) (ov : Nat -> Value) (lab : Nat -> Option Nat) (hd : S.aC d = []) (hdl : d < S.tmps.length) (hne : os ≠ [])
  (hlab : ∀ c j, lab c = some j -> w0.w.heap.size <= c /\ c < w.heap.size /\ (∀ i, G.ow c ≠ some (.box i)) /\ ∀ k' j' t xs deep m, G.ow c = some (.own k' j') -> (aU (S.aC k') j').fB ≠ .own t xs deep m)
  (hos : ∀ j, match aU os j with
   | .dead => True
   | .own t xs deep m => OwT w G.S deep m t xs (ov j) (fun c => lab c = some j)
   | .ro t xs => Rep w G.S (.list t xs) (ov j)
   | .tree t xs => ∃ fp : Nat -> Prop, (∀ b, fp b -> lab b = some j) /\ Ow w (fun _ _ => False) true (.list t xs) (ov j) fp /\ ∀ b o, G.S b o -> ¬ fp b
   | .part t xs i => gu w G.S t xs i (ov j) (fun c => lab c = some j)
   | .seg t xs => vK w G.S t xs (ov j) (fun c => lab c = some j)) :
  ∃ G', Inv w0 G' (S.bM d os) a w /\ Mv G G' w w /\ G'.lk d /\ (∀ j, G'.ov d j = ov j) /\ G'.bk = G.bk /\ G'.S = G.S /\ (∀ c, G'.ow c = match lab c with | some j => some (.own d j) | none => G.ow c) := by
 have hnl : ¬ G.lk d := fun hl => h.lk d hl hd
 let G' : Gh := { G with ov := fun k j => if k = d then ov j else G.ov k j, ow := fun c => match lab c with | some j => some (.own d j) | none => G.ow c, lk := fun k => k = d \/ G.lk k }
 have hm : Mv G G' w w := ⟨fun b o hs => ⟨hs, rfl⟩, fun k hk => ⟨.inr hk, fun j => by
  show (if k = d then ov j else G.ov k j) = _
  rw [if_neg (fun e : k = d => hnl (e ▸ hk))]⟩, fun x hx => ⟨hx, rfl⟩⟩
 have how : ∀ c, G'.ow c = match lab c with | some j => some (.own d j) | none => G.ow c := fun _ => rfl
 refine ⟨G', ⟨h.below, h.nodef, h.tsz, by simp [St.bM, h.bsz], by simp [St.bM, h.osz], fun x v hv => (h.tmps x v hv).move hm, ?_, ?_, ?_, ?_, ?_, h.lb, h.sfr, h.fx⟩, hm, .inl rfl, fun j => if_pos rfl, rfl, rfl, fun _ => rfl⟩
 ·intro x y hx
  rw [how] at hx
  cases hl : lab x with
  | some j => exact ⟨.inl (hlab x j hl).1, (hlab x j hl).2.1⟩
  | none => rw [hl] at hx; exact h.olt x y hx
 ·intro x o hs
  refine ⟨(h.sok x o hs).1, fun i => ?_⟩
  rw [how]
  cases hl : lab x with
  | some j => simp
  | none => exact (h.sok x o hs).2 i
 ·intro x cs hcs
  obtain ⟨ho', vs'', E', hh', hc'⟩ := h.box x cs hcs
  refine ⟨?_, vs'', E', hh', hc'.move hm⟩
  rw [how]
  cases hl : lab (G'.bk x) with
  | some j => exact absurd ho' ((hlab _ j hl).2.2.1 x)
  | none => exact ho'
 ·intro k' j'
  rw [aY]
  by_cases hk : d = k' /\ d < S.owns.length
  ·rw [if_pos hk]
   obtain ⟨rfl, _⟩ := hk
   have := hos j'
   revert this
   generalize aU os j' = x
   intro hx
   cases x with
   | dead => trivial
   | own t xs deep m =>
    show OwT w G.S deep m t xs (if d = d then ov j' else G.ov d j') (eH G' d j')
    rw [if_pos rfl]
    refine OwT.move hx (fun b o hs => ⟨hs, rfl⟩) (fun c hc => ⟨?_, rfl⟩) (fun _ _ _ _ _ o hs => .inl hs)
    show G'.ow c = _
    rw [how, hc]
   | ro t xs =>
    show Rep w G.S (.list t xs) (if d = d then ov j' else G.ov d j')
    rw [if_pos rfl]
    exact hx
   | tree t xs =>
    obtain ⟨fp, h1, h2, h3⟩ := hx
    refine ⟨fp, fun c hc => ?_, ?_, h3⟩
    ·show G'.ow c = _
     rw [how, h1 c hc]
    ·show Ow w (fun _ _ => False) true (.list t xs) (if d = d then ov j' else G.ov d j') fp
     rw [if_pos rfl]
     exact h2
   | part t xs i =>
    show gu w G.S t xs i (if d = d then ov j' else G.ov d j') (eH G' d j')
    rw [if_pos rfl]
    refine gu.move hx (fun c hc => ⟨?_, rfl⟩) fun _ _ _ h => h
    show G'.ow c = _
    rw [how, hc]
   | seg t xs =>
    show vK w G.S t xs (if d = d then ov j' else G.ov d j') (eH G' d j')
    rw [if_pos rfl]
    refine vK.move hx (fun b o hs => ⟨hs, rfl⟩) fun c hc => ⟨?_, rfl⟩
    show G'.ow c = _
    rw [how, hc]
  ·rw [if_neg hk]
   have hkd : k' ≠ d := fun e => hk ⟨e.symm, by rw [h.osz]; exact hdl⟩
   have keep : ∀ t xs deep m, (aU (S.aC k') j').fB = .own t xs deep m -> ∀ c, G.ow c = some (.own k' j') -> G'.ow c = some (.own k' j') := by
    intro t xs deep m hx c hc'
    rw [how]
    cases hl : lab c with
    | some j => exact absurd hx ((hlab c j hl).2.2.2 k' j' t xs deep m hc')
    | none => exact hc'
   refine (h.owns k' j').same (by show (if k' = d then ov j' else G.ov k' j') = _; rw [if_neg hkd]) hm.s (fun t xs deep m hx => ⟨fun c hc' => ⟨keep t xs deep m (by rw [hx]; rfl) c hc', rfl⟩, fun _ _ _ _ _ o hs => .inl hs⟩)
    fun t xs hx c hc' => ⟨keep t xs true true hx.adK c hc', rfl, fun o hs => hs⟩
 ·intro k' hk'
  rw [aY]
  by_cases hk : d = k' /\ d < S.owns.length
  ·rw [if_pos hk]; exact hne
  ·rw [if_neg hk]
   rcases hk' with hk' | hk'
   ·exact absurd ⟨hk'.symm, by rw [h.osz]; exact hdl⟩ hk
   ·exact h.lk k' hk'
theorem Inv.O4 (h : Inv w0 G S a w) (d : Nat) (os : List O) (ov : Nat -> Value) (lab : Nat -> Option Nat) (hd : S.aC d = []) (hdl : d < S.tmps.length) (hne : os ≠ [])
  (hlab : ∀ c j, lab c = some j -> w0.w.heap.size <= c /\ c < w.heap.size /\ (∀ i, G.ow c ≠ some (.box i)) /\ ∀ k' j' t xs deep m, G.ow c = some (.own k' j') -> (aU (S.aC k') j').fB ≠ .own t xs deep m)
  (hos : ∀ j, match aU os j with
   | .dead => True
   | .own t xs deep m => OwT w G.S deep m t xs (ov j) (fun c => lab c = some j)
   | .ro t xs => Rep w G.S (.list t xs) (ov j)
   | .tree t xs => ∃ fp : Nat -> Prop, (∀ b, fp b -> lab b = some j) /\ Ow w (fun _ _ => False) true (.list t xs) (ov j) fp /\ ∀ b o, G.S b o -> ¬ fp b
   | .part t xs i => gu w G.S t xs i (ov j) (fun c => lab c = some j)
   | .seg t xs => vK w G.S t xs (ov j) (fun c => lab c = some j)) :
  ∃ G', Inv w0 G' (S.bM d os) a w /\ Mv G G' w w /\ G'.lk d /\ (∀ j, G'.ov d j = ov j) := by
 obtain ⟨G', h1, h2, h3, h4, _⟩ := h.rJ d os ov lab hd hdl hne hlab hos
 exact ⟨G', h1, h2, h3, h4⟩
end steps
end Go.Abs
namespace Go.Abs
open Go.RowKit
theorem uw {α : Type} {l : List (Nat × α)} {k : Nat} {x : α} (h : lk l k = some x) : (k, x) ∈ l := by
 unfold lk at h
 rw [Option.map_eq_some_iff] at h
 obtain ⟨p, hp, rfl⟩ := h
 have h1 := List.find?_some hp
 have h2 := List.mem_of_find?_eq_some hp
 obtain ⟨a, b⟩ := p
 simp at h1
 subst h1
 exact h2
def Ei : TypeDesc -> Bool
 | .struct _ | .array _ _ => true
 | _ => false
def jJ : List C -> List Value -> Bool
 | [], [] => true
 | .d (.int k n) :: cs, .int k' n' :: vs => decide (k = k') && decide (n = n') && jJ cs vs
 | .d (.bool b) :: cs, .bool b' :: vs => b == b' && jJ cs vs
 | .d (.str s) :: cs, .string v :: vs => decide (v.data.toList = s) && jJ cs vs
 | .nil :: cs, .slice none 0 0 :: vs => jJ cs vs
 | .d (.list _ []) :: cs, .slice none 0 0 :: vs => jJ cs vs
 | _, _ => false
def F9 (P : Program) (fd : Field) (fo : Nat) (agg : Bool) (n : Nat) : Bool :=
 fd.offset == fo && (match P.underlying fd.type, P.info? fd.type with
  | some d, some i => Ei d == agg && i.size == n && decide (0 < n)
  | _, _ => false)
def sJ (P : Program) (F : Array Field) : Nat -> List (Nat × Bool × Nat) -> Bool
 | _, [] => true
 | f, (fo, agg, n) :: r => (match F[f]? with | some fd => F9 P fd fo agg n | none => false) && sJ P F (f + 1) r
def SK (P : Program) (k : TypeId -> Option (List Kd)) : Nat -> List Field -> Option (List Kd)
 | _, [] => some []
 | off, f :: r => if f.name ≠ "_" /\ f.offset = off then (k f.type).bind fun ks => if ks.length = P.cellsOf f.type then (SK P k (off + ks.length) r).map (ks ++ ·) else none else none
def LW (P : Program) : Nat -> TypeId -> Option (List Kd)
 | 0, _ => none
 | n + 1, t => match P.underlying t with
  | some .bool => some [.bool]
  | some (.int k) => some [.int k]
  | some .string => some [.str]
  | some (.struct fs) => if P.stoodInHeld t then none else (SK P (LW P n) 0 fs.toList).bind fun ks => if ks.length = P.cellsOf t then some ks else none
  | _ => none
def TT.ok' (P : Program) (T : TT) : Bool :=
 T.ints.all (fun x => match P.underlying x.1 with
  | some (.int k) => decide (k = x.2)
  | _ => false) &&
 T.eqs.all (fun x => decide (LW P 9 x.1 = some x.2) && !(P.eqGuardType P.depth x.1) && (match P.underlying x.1 with
  | some (.struct _) => true
  | _ => false)) &&
 T.elem.all (fun x => !(decide (x.2 = .base .u8)) || (match P.underlying x.1 with
  | some (.slice e) => (match P.underlying e with
   | some (.int .u8) => true
   | _ => false)
  | _ => false))
def TT.ok0 (P : Program) (T : TT) : Bool :=
 T.shape.all (fun x => match P.underlying x.1, P.info? x.1 with
  | some d, some i => i.size == x.2.2 && Ei d == x.2.1
  | _, _ => false) &&
 T.zero.all (fun x => match (P.info? x.1).bind (·.zero) with
  | some z => jJ x.2 z.cells.toList
  | none => false) &&
 T.fields.all (fun x => match P.underlying x.1 with
  | some (.struct F) => sJ P F 0 x.2 && x.2.length == F.size
  | _ => false) &&
 T.elem.all (fun x => match P.underlying x.1 with
  | some (.slice e) => (match P.info? e with
   | some i => i.size == x.2.size && decide (i.bytes <= 4096) && (match i.zero with
    | some z => z.cells.size == x.2.size && jJ ((x.2.cells x.2.zero).map .d) z.cells.toList
    | none => false)
   | none => false)
  | _ => false) &&
 T.strs.all (fun x => match P.underlying x with
  | some .string => true
  | _ => false) &&
 T.bools.all (fun x => match P.underlying x with
  | some .bool => true
  | _ => false)
def TT.ok (P : Program) (T : TT) : Bool := T.ok0 P && T.ok' P
section tables
variable {P : Program} {T : TT}
theorem TT.Jk (h : T.ok P = true) {t : Nat} {k : IntKind} (hl : lk T.ints t = some k) : P.underlying t = some (.int k) := by
 simp only [TT.ok, TT.ok', zI] at h
 have := List.all_eq_true.1 h.2.1.1 _ (uw hl)
 simp only at this
 split at this
 ·rename_i k' hu
  rw [hu, of_decide_eq_true this]
 ·cases this
theorem TT.aeb (h : T.ok P = true) {t : Nat} (hl : lk T.elem t = some (.base .u8)) {e : TypeId} (hu : P.underlying t = some (.slice e)) : P.underlying e = some (.int .u8) := by
 simp only [TT.ok, TT.ok', zI] at h
 have := List.all_eq_true.1 h.2.2 _ (uw hl)
 simp only [hu, decide_true, Bool.not_true, Bool.false_or] at this
 split at this
 ·assumption
 ·cases this
theorem TT.adU (h : T.ok P = true) {t : Nat} {ks : List Kd} (hl : lk T.eqs t = some ks) : LW P 9 t = some ks /\ P.eqGuardType P.depth t = false /\ ∃ fs, P.underlying t = some (.struct fs) := by
 simp only [TT.ok, TT.ok', zI] at h
 have := List.all_eq_true.1 h.2.1.2 _ (uw hl)
 simp only [zI, decide_eq_true_eq, Bool.not_eq_true'] at this
 refine ⟨this.1.1, this.1.2, ?_⟩
 have h2 := this.2
 split at h2
 ·rename_i fs hu; exact ⟨fs, hu⟩
 ·cases h2
theorem TT.qQ (h : T.ok P = true) {t : Nat} {agg : Bool} {n : Nat} (hl : lk T.shape t = some (agg, n)) :
  ∃ d i, P.underlying t = some d /\ P.info? t = some i /\ i.size = n /\ Ei d = agg := by
 replace h := (zI _ _ ▸ h).1
 simp only [TT.ok0, zI] at h
 have := List.all_eq_true.1 h.1.1.1.1.1 _ (uw hl)
 simp only at this
 split at this
 ·rename_i d i hd hi
  simp at this
  exact ⟨d, i, hd, hi, this.1, this.2⟩
 ·cases this
theorem TT.Vu (h : T.ok P = true) {t : Nat} {cs : List C} (hl : lk T.zero t = some cs) :
  ∃ i z, P.info? t = some i /\ i.zero = some z /\ jJ cs z.cells.toList = true := by
 replace h := (zI _ _ ▸ h).1
 simp only [TT.ok0, zI] at h
 have := List.all_eq_true.1 h.1.1.1.1.2 _ (uw hl)
 simp only at this
 split at this
 ·rename_i z hz
  rw [zB] at hz
  obtain ⟨i, hi, hz⟩ := hz
  exact ⟨i, z, hi, hz, this⟩
 ·cases this
theorem Ci {P : Program} {F : Array Field} : ∀ (fs : List (Nat × Bool × Nat)) (k : Nat), sJ P F k fs = true -> ∀ (f : Nat) (fo : Nat) (agg : Bool) (n : Nat), fs[f]? = some (fo, agg, n) ->
  ∃ fd, F[k + f]? = some fd /\ F9 P fd fo agg n = true
 | [], k, _, f, fo, agg, n, hf => by simp at hf
 | (fo', agg', n') :: r, k, h, f, fo, agg, n, hf => by
  simp only [sJ, zI] at h
  cases f with
  | zero =>
   simp at hf
   obtain ⟨rfl, rfl, rfl⟩ := hf
   have h1 := h.1
   split at h1
   ·rename_i fd hfd; exact ⟨fd, hfd, h1⟩
   ·cases h1
  | succ f =>
   obtain ⟨fd, h1, h2⟩ := Ci r (k + 1) h.2 f fo agg n (by simpa using hf)
   exact ⟨fd, by rw [show k + (f + 1) = k + 1 + f by omega]; exact h1, h2⟩
theorem TT.JM (h : T.ok P = true) {t f fo : Nat} {agg : Bool} {n : Nat} (hl : (lk T.fields t).bind (·[f]?) = some (fo, agg, n)) :
  ∃ F fd d i, P.underlying t = some (.struct F) /\ F[f]? = some fd /\ fd.offset = fo /\ P.underlying fd.type = some d /\ P.info? fd.type = some i /\ Ei d = agg /\ i.size = n /\ 0 < n := by
 replace h := (zI _ _ ▸ h).1
 simp only [TT.ok0, zI] at h
 rw [zB] at hl
 obtain ⟨fs, hfs, hf⟩ := hl
 have := List.all_eq_true.1 h.1.1.1.2 _ (uw hfs)
 simp only at this
 split at this
 ·rename_i F hF
  rw [zI] at this
  obtain ⟨fd, h1, h2⟩ := Ci fs 0 this.1 f fo agg n hf
  simp only [F9, zI, beq_iff_eq] at h2
  obtain ⟨h2, h3⟩ := h2
  split at h3
  ·rename_i d i hd hi
   simp at h3
   exact ⟨F, fd, d, i, hF, by simpa using h1, h2, hd, hi, h3.1.1, h3.1.2, h3.2⟩
  ·cases h3
 ·cases this
theorem vC {P : Program} {F : Array Field} : ∀ (fs : List (Nat × Bool × Nat)) (k : Nat), sJ P F k fs = true -> fs.length + k = F.size ->
  (F.toList.drop k).mapM (fun f => (P.info? f.type).map fun i => (f.offset, i.size)) = some (fs.map fun x => (x.1, x.2.2))
 | [], k, _, hl => by
  have : F.toList.drop k = [] := by simp at hl ⊢; omega
  rw [this]; rfl
 | (fo, agg, n) :: r, k, h, hl => by
  simp only [sJ, zI] at h
  have hk : k < F.toList.length := by simp at hl ⊢; omega
  have ih := vC r (k + 1) h.2 (by simp at hl ⊢; omega)
  rw [List.drop_eq_getElem_cons hk, List.mapM_cons, ih]
  have h1 := h.1
  split at h1
  ·rename_i fd hfd
   have e : F.toList[k] = fd := by
    have : F.toList[k]? = some fd := by simpa using hfd
    rw [zF hk] at this
    exact Option.some.inj this
   rw [e]
   simp only [F9, zI, beq_iff_eq] at h1
   obtain ⟨h2, h3⟩ := h1
   split at h3
   ·rename_i d i hd hi
    simp at h3
    simp [hi, h2, h3.1.2]
   ·cases h3
  ·cases h1
theorem TT.Ya (h : T.ok P = true) {t : Nat} {fs : List (Nat × Bool × Nat)} (hl : lk T.fields t = some fs) :
  ∃ F, P.underlying t = some (.struct F) /\ F.toList.mapM (fun f => (P.info? f.type).map fun i => (f.offset, i.size)) = some (fs.map fun x => (x.1, x.2.2)) := by
 replace h := (zI _ _ ▸ h).1
 simp only [TT.ok0, zI] at h
 have := List.all_eq_true.1 h.1.1.1.2 _ (uw hl)
 simp only at this
 split at this
 ·rename_i F hF
  rw [zI] at this
  exact ⟨F, hF, vC fs 0 this.1 (by simpa using this.2)⟩
 ·cases this
theorem TT.gY (h : T.ok P = true) {t : Nat} {ty : Ty} (hl : lk T.elem t = some ty) :
  ∃ e i z, P.underlying t = some (.slice e) /\ P.info? e = some i /\ i.size = ty.size /\ i.bytes <= 4096 /\ i.zero = some z /\ z.cells.size = ty.size /\ jJ ((ty.cells ty.zero).map .d) z.cells.toList = true := by
 replace h := (zI _ _ ▸ h).1
 simp only [TT.ok0, zI] at h
 have := List.all_eq_true.1 h.1.1.2 _ (uw hl)
 simp only at this
 split at this
 ·rename_i e he
  split at this
  ·rename_i i hi
   simp only [zI, beq_iff_eq, decide_eq_true_eq] at this
   obtain ⟨⟨h1, h2⟩, h3⟩ := this
   split at h3
   ·rename_i z hz
    simp only [zI, beq_iff_eq] at h3
    exact ⟨e, i, z, he, hi, h1, h2, hz, h3.1, h3.2⟩
   ·cases h3
  ·cases this
 ·cases this
theorem TT.GI (h : T.ok P = true) {t : Nat} (hl : T.strs.contains t = true) : P.underlying t = some .string := by
 replace h := (zI _ _ ▸ h).1
 simp only [TT.ok0, zI] at h
 have := List.all_eq_true.1 h.1.2 t (by simpa using hl)
 split at this
 ·rename_i hu; exact hu
 ·cases this
theorem TT.ab2 (h : T.ok P = true) {t : Nat} (hl : T.bools.contains t = true) : P.underlying t = some .bool := by
 replace h := (zI _ _ ▸ h).1
 simp only [TT.ok0, zI] at h
 have := List.all_eq_true.1 h.2 t (by simpa using hl)
 split at this
 ·rename_i hu; exact hu
 ·cases this
end tables
theorem jY {G : Gh} {w : World} : ∀ (cs : List C) (vs : List Value), jJ cs vs = true -> bY G w cs vs
 | [], [], _ => trivial
 | [], _ :: _, h => by simp [jJ] at h
 | c :: cs, [], h => by unfold jJ at h; split at h <;> simp_all
 | c :: cs, v :: vs, h => by
  unfold jJ at h
  split at h
  ·simp_all
  ·rename_i k n cs' k' n' vs' e1 e2
   cases e1; cases e2
   simp only [zI, decide_eq_true_eq] at h
   obtain ⟨⟨rfl, rfl⟩, h3⟩ := h
   exact ⟨Rep.int _ _, jY _ _ h3⟩
  ·rename_i b cs' b' vs' e1 e2
   cases e1; cases e2
   simp only [zI, beq_iff_eq] at h
   obtain ⟨rfl, h3⟩ := h
   exact ⟨Rep.bool _, jY _ _ h3⟩
  ·rename_i s cs' v' vs' e1 e2
   cases e1; cases e2
   simp only [zI, decide_eq_true_eq] at h
   obtain ⟨rfl, h3⟩ := h
   exact ⟨Rep.str _, jY _ _ h3⟩
  ·rename_i cs' vs' e1 e2
   cases e1; cases e2
   exact ⟨rfl, jY _ _ h⟩
  ·rename_i t cs' vs' e1 e2
   cases e1; cases e2
   exact ⟨Rep.nil _, jY _ _ h⟩
  ·cases h
section reads
variable {w0 : Bs} {G : Gh} {S : St} {a : Act} {w : World}
theorem Inv.gq (h : Inv w0 G S a w) (t : Nat) : iE G w (S.gq t) (a.tmps.getD t undef) := by
 cases ht : a.tmps[t]? with
 | some v => have := h.tmps t v ht; simpa [ht] using this
 | none =>
  have hl : a.tmps.size <= t := by simpa using ht
  rw [h.tsz] at hl
  have : S.gq t = .undef := by simp [St.gq, zE, zJ hl]
  rw [this]; trivial
theorem aas {v : Value} {c : C} (h : ad5 v = some c) : kY G w c v := by
 unfold ad5 at h
 split at h <;> cases h
 ·exact Rep.int _ _
 ·exact Rep.bool _
 ·exact Rep.str _
 ·rfl
theorem aS (h : Inv w0 G S a w) {x : Operand} {av : AV} (hv : (dn x).val S = some av) : iE G w av (a.eval x) := by
 cases x with
 | tmp t =>
  simp only [dn, Rd.val, zD] at hv
  subst hv
  exact h.gq t
 | const v =>
  simp only [dn] at hv
  split at hv
  ·rename_i c hc
   simp only [Rd.val, zD] at hv
   subst hv
   exact aas hc
  ·simp only [Rd.val, zD] at hv
   subst hv
   trivial
 | global g => cases hv
 | func f => cases hv
theorem lZ {av : AV} {x : V} {v : Value} (hx : (avV av).val S = some x) (h : iE G w av v) : pR G w x v := by
 unfold avV at hx
 split at hx
 ·simp only [Rd.val, zD] at hx; subst hx; exact h
 ·cases hx
theorem jW {av : AV} {x : D} {v : Value} (hx : (avD av).val S = some x) (h : iE G w av v) : Rep w G.S x v := by
 unfold avD at hx
 split at hx
 ·simp only [Rd.val, zD] at hx; subst hx; exact h
 ·cases hx
theorem oO {av : AV} {n : Int} {v : Value} (hx : (CS av).val S = some n) (h : iE G w av v) : ∃ k, v = .int k n := by
 simp only [CS, Rd.ak, zB] at hx
 obtain ⟨d, hd, hx⟩ := hx
 have := jW hd h
 cases this <;> simp only [Rd.val, zD] at hx <;> first | (subst hx; exact ⟨_, rfl⟩) | cases hx
def AK (G : Gh) (S : St) (keys : List (Nat × Nat)) (b o : Nat) : Prop :=
 ∃ k j t xs deep m, (k, j) ∈ keys /\ (aU (S.aC k) j).pO = .own t xs deep m /\ G.ow b = some (.own k j) /\ (∀ len cap, G.ov k j = .slice (some ⟨b, 0, none⟩) len cap -> o < xs.length * t.size)
theorem OwT.VB {S S' : Nat -> Nat -> Prop} {deep m : Bool} {t : Ty} {xs : List t.den} {v : Value} {fp : Nat -> Prop} (h : OwT w S deep m t xs v fp)
  (hS : ∀ b o, S b o -> S' b o) (hfp : ∀ b o, fp b -> (∀ len cap, v = .slice (some ⟨b, 0, none⟩) len cap -> o < xs.length * t.size) -> S' b o) : Rep w S' (.list t xs) v := by
 rcases h with ⟨rfl, rfl⟩ | ⟨b, cap, arr, E, vs, fps, rfl, hb, hcap, hmax, hsz, hfb, hc, hr, hf, hdis, hs⟩
 ·exact .nil t
 ·refine .list t xs b 0 cap vs hcap (fun i x j d hx hd => ?_) (fun i x j d hx hd => (hr i x j d hx hd).VB hS fun c o hcc _ => hfp c o (hf i j c hcc).1 fun len cap e => ?_)
  ·have e : w.cell? ⟨b, 0 + (i * t.size + j), none⟩ = some (vs i j) := by
    simp only [Nat.zero_add, World.cell?, hb]; simpa using hc i x j d hx hd
   refine ⟨e, hfp b _ hfb fun len cap _ => ?_⟩
   have hi : i < xs.length := (zC.1 hx).1
   have hj : j < t.size := by
    have := (zC.1 hd).1
    rwa [Ty.aQ] at this
   have h1 : (i + 1) * t.size <= xs.length * t.size := Nat.mul_le_mul_right _ hi
   rw [Nat.succ_mul] at h1
   omega
  ·injection e with e1 _ _
   injection e1 with e1
   injection e1 with e1 _ _
   exact absurd e1.symm (hf i j c hcc).2
theorem O.TD {x : O} {t : Ty} {xs : List t.den} {deep m : Bool} (h : x.pO = .own t xs deep m) : x = .own t xs deep m \/ (x = .tree t xs /\ deep = true /\ m = true) := by
 cases x with
 | tree t' xs' => cases h; exact .inr ⟨rfl, rfl, rfl⟩
 | own => exact .inl h
 | ro => cases h
 | dead => cases h
 | part => cases h
 | seg => cases h
theorem OwT.IK {w : World} {S' : Nat -> Nat -> Prop} {t : Ty} {xs : List t.den} {v : Value} {fp fp' : Nat -> Prop} (h : Ow w (fun _ _ => False) true (.list t xs) v fp) (hf : ∀ c, fp c -> fp' c) (hS : ∀ b o, S' b o -> ¬ fp b) : OwT w S' true true t xs v fp' := by
 generalize hdd : D.list t xs = dd at h
 cases h with
 | int => cases hdd
 | bool => cases hdd
 | str => cases hdd
 | nil t' => cases hdd; exact .inl ⟨rfl, rfl⟩
 | ro _ _ _ hd => cases hd
 | list t' xs' b cap arr E vs fps _ hb hcap hmax hsz hfb hc hr hfp hdis =>
  cases hdd
  exact .inr ⟨b, cap, arr, E, vs, fps, rfl, hb, hcap, hmax, hsz, hf _ hfb, hc, fun i x j d hx hd => (hr i x j d hx hd).move (fun _ _ h => h.elim) fun _ _ => rfl, fun i j c hcf => ⟨hf _ (hfp i j c hcf).1, (hfp i j c hcf).2⟩, hdis, fun o hs => absurd hfb (hS b o hs)⟩
theorem Inv.Zc (h : Inv w0 G S a w) {k j : Nat} {t : Ty} {xs : List t.den} {deep m : Bool} (ho : (aU (S.aC k) j).pO = .own t xs deep m) : OwT w G.S deep m t xs (G.ov k j) (eH G k j) := by
 have := h.owns k j
 rcases O.TD ho with ho' | ⟨ho', rfl, rfl⟩
 ·rw [ho'] at this; exact this
 ·rw [ho'] at this
  obtain ⟨fp, h1, h2, h3⟩ := this
  exact OwT.IK h2 h1 h3
theorem Inv.Iz (h : Inv w0 G S a w) {k j : Nat} {t : Ty} {xs : List t.den} {deep m : Bool} (ho : (aU (S.aC k) j).pO = .own t xs deep m) (keys : List (Nat × Nat)) (hk : (k, j) ∈ keys) :
  Rep w (fun b o => G.S b o \/ AK G S keys b o) (.list t xs) (G.ov k j) :=
 OwT.VB (h.Zc ho) (fun b o hs => .inl hs) fun b o hb hlt => .inr ⟨k, j, t, xs, deep, m, hk, ho, hb, hlt⟩
theorem Inv.BA (h : Inv w0 G S a w) {k j : Nat} {t : Ty} {xs : List t.den} {deep m : Bool} (ho : aU (S.aC k) j = .own t xs deep m) (keys : List (Nat × Nat)) (hk : (k, j) ∈ keys) :
  Rep w (fun b o => G.S b o \/ AK G S keys b o) (.list t xs) (G.ov k j) := h.Iz (by rw [ho]; rfl) keys hk
theorem Inv.OO (h : Inv w0 G S a w) {k j : Nat} {t : Ty} {xs : List t.den} (ho : aU (S.aC k) j = .ro t xs) : Rep w G.S (.list t xs) (G.ov k j) := by
 have := h.owns k j
 rw [ho] at this
 exact this
theorem JY (h : Inv w0 G S a w) {ty : Option Ty} {c : C} {d : D} {v : Value} (hd : (cD ty c).val S = some d) (hc : kY G w c v) (keys : List (Nat × Nat)) (hk : ∀ k j, c = .own k j -> (k, j) ∈ keys) :
  Rep w (fun b o => G.S b o \/ AK G S keys b o) d v := by
 cases c with
 | undef => cases hd
 | d x =>
  simp only [cD, Rd.val, zD] at hd
  subst hd
  exact Rep.move hc fun b o hs => ⟨.inl hs, rfl⟩
 | nil =>
  simp only [cD] at hd
  split at hd
  ·simp only [Rd.val, zD] at hd
   subst hd
   rw [show v = _ from hc]
   exact .nil _
  ·cases hd
 | own k j =>
  simp only [cD, Rd.val] at hd
  rw [hc.2.1]
  split at hd
  ·rename_i t xs deep m ho
   simp only [Rd.val, zD] at hd
   subst hd
   exact h.BA ho keys (hk k j rfl)
  ·rename_i t xs ho
   simp only [Rd.val, zD] at hd
   subst hd
   exact (h.OO ho).move fun b o hs => ⟨.inl hs, rfl⟩
  ·rename_i t xs ho
   simp only [Rd.val, zD] at hd
   subst hd
   exact h.Iz (by rw [ho]; rfl) keys (hk k j rfl)
  ·cases hd
  ·cases hd
  ·cases hd
 | ptr b off => cases hd
def aO (R : Nat -> D -> Value -> Prop) : Nat -> List D -> List Value -> Prop
 | _, [], [] => True
 | n, d :: ds, v :: vs => R n d v /\ aO R (n + 1) ds vs
 | _, _, _ => False
def ShR (R : Nat -> D -> Value -> Prop) (n : Nat) (s : Sh) (x : s.t.den) (u : Value) : Prop :=
 match s.agg with
 | true => ∃ vs : List Value, u = .agg vs.toArray /\ aO R n (s.t.cells x) vs
 | false => aO R n (s.t.cells x) [u]
def jb (R : Nat -> D -> Value -> Prop) : (n : Nat) -> (ss : List Sh) -> Tup ss -> List Value -> Prop
 | _, [], _, [] => True
 | n, [s], x, [u] => ShR R n s x u
 | n, s :: s' :: r, x, u :: us => ShR R n s x.1 u /\ jb R (n + s.t.size) (s' :: r) x.2 us
 | _, _, _, _ => False
theorem fO {cs : List C} {k j : Nat} : C.own k j ∈ cs -> (k, j) ∈ aI cs := by
 intro h
 induction cs with
 | nil => cases h
 | cons c cs ih =>
  cases h with
  | head => simp [aI]
  | tail _ h =>
   cases c <;> simp only [aI, List.mem_cons] <;> first | exact ih h | exact .inr (ih h)
theorem qi {k j : Nat} : ∀ {cs : List C}, (k, j) ∈ aI cs -> C.own k j ∈ cs
 | [], h => by cases h
 | c :: r, h => by
  cases c with
  | own k' j' =>
   rcases List.mem_cons.1 h with h | h
   ·cases h; exact List.mem_cons_self
   ·exact List.mem_cons_of_mem _ (qi h)
  | _ => exact List.mem_cons_of_mem _ (qi h)
theorem WA (h : Inv w0 G S a w) (keys : List (Nat × Nat)) : ∀ {tys : List (Option Ty)} {cs : List C} {ds : List D} {vs : List Value} (n : Nat), (cDs tys cs).val S = some ds -> tys.length = cs.length -> bY G w cs vs ->
  (∀ k j, C.own k j ∈ cs -> (k, j) ∈ keys) -> aO (fun _ d v => Rep w (fun b o => G.S b o \/ AK G S keys b o) d v) n ds vs
 | [], [], ds, [], n, hd, _, _, _ => by
  simp only [cDs, Rd.val, zD] at hd; subst hd; trivial
 | ty :: tys, c :: cs, ds, v :: vs, n, hd, hl, hc, hk => by
  simp only [cDs, Rd.ak, zB, Rd.val, zD] at hd
  obtain ⟨d, h1, ds', h2, rfl⟩ := hd
  exact ⟨JY h h1 hc.1 keys fun k j e => hk k j (e ▸ List.mem_cons_self), WA h keys (n + 1) h2 (by simpa using hl) hc.2 fun k j e => hk k j (List.mem_cons_of_mem _ e)⟩
theorem lg (t : Ty) : t.tys.length = t.size := by simp [Ty.tys, Ty.aQ]
theorem pR.cells {x : V} {v : Value} (h : pR G w x v) : ∃ vs : List Value, bY G w x.cells vs /\ (x.isAgg = true -> v = .agg vs.toArray) /\ (x.isAgg = false -> vs = [v]) := by
 cases x with
 | one c => exact ⟨[v], ⟨h, trivial⟩, by simp [V.isAgg], fun _ => rfl⟩
 | agg cs => obtain ⟨vs, hv, hc⟩ := h; exact ⟨vs, hc, fun _ => hv, by simp [V.isAgg]⟩
theorem TM (h : Inv w0 G S a w) (keys : List (Nat × Nat)) {s : Sh} {x : V} {y : s.t.den} {v : Value} (n : Nat) (hy : (vT s x).val S = some y) (hx : pR G w x v)
  (hk : ∀ k j, C.own k j ∈ x.cells -> (k, j) ∈ keys) : ShR (fun _ d v => Rep w (fun b o => G.S b o \/ AK G S keys b o) d v) n s y v := by
 simp only [vT] at hy
 split at hy
 ·rename_i hg
  simp only [Rd.ak, zB, Rd.val] at hy
  obtain ⟨ds, h1, z, h2, h3⟩ := hy
  simp only [zD] at h3
  subst h3
  obtain ⟨vs, hc, ha, hb⟩ := hx.cells
  have := WA h keys n h1 (by rw [lg]; exact hg.2.symm) hc hk
  rw [<- Ty.bV h2] at this
  unfold ShR
  cases hs : s.agg with
  | true => exact ⟨vs, ha (by rw [hg.1, hs]), this⟩
  | false => rw [hb (by rw [hg.1, hs])] at this; exact this
 ·cases hy
theorem sZ (h : Inv w0 G S a w) (keys : List (Nat × Nat)) : ∀ {ss : List Sh} {xs : List V} {y : Tup ss} {us : List Value} (n : Nat), (vTs ss xs).val S = some y -> kL G w xs us ->
  (∀ k j x, x ∈ xs -> C.own k j ∈ x.cells -> (k, j) ∈ keys) -> jb (fun _ d v => Rep w (fun b o => G.S b o \/ AK G S keys b o) d v) n ss y us
 | [], [], y, [], n, _, _, _ => trivial
 | [s], [x], y, [u], n, hy, hx, hk => TM h keys n hy hx.1 fun k j e => hk k j x (by simp) e
 | s :: s' :: r, x :: xs, y, u :: us, n, hy, hx, hk => by
  simp only [vTs, Rd.ak, zB, Rd.val, zD] at hy
  obtain ⟨p, h1, q, h2, rfl⟩ := hy
  exact ⟨TM h keys n h1 hx.1 fun k j e => hk k j x (by simp) e, sZ h keys _ h2 hx.2 fun k j z hz e => hk k j z (List.mem_cons_of_mem _ hz) e⟩
 | [s], x :: x' :: xs, y, us, n, hy, _, _ => by simp [vTs, Rd.val] at hy
 | [s], [], y, us, n, hy, _, _ => by simp [vTs, Rd.val] at hy
 | [], _ :: _, y, us, n, hy, _, _ => by simp [vTs, Rd.val] at hy
 | s :: s' :: r, [], y, us, n, hy, _, _ => by simp [vTs, Rd.val] at hy
theorem pK (h : Inv w0 G S a w) : ∀ {xs : List Operand} {vs : List V}, (xB xs).val S = some vs -> kL G w vs (xs.map a.eval)
 | [], vs, hv => by simp only [xB, Rd.val, zD] at hv; subst hv; trivial
 | x :: xs, vs, hv => by
  simp only [xB, Rd.ak, zB, Rd.val, zD] at hv
  obtain ⟨av, h1, v, h2, vs', h3, rfl⟩ := hv
  exact ⟨lZ h2 (aS h h1), pK h h3⟩
end reads
end Go.Abs
namespace Go.Abs
open Go.RowKit
section ops
variable {P : Program} {w0 : Bs} {G : Gh} {S : St} {a : Act} {w : World} {o : Oper} {K : Act -> World -> Prop} {Q : Exit -> Act -> World -> Prop}
theorem aJ {v : Value} {w' : World} (hrun : (execOp a.eval o).run P w = .ok (.value v) w') (h : K (a.put o.dst v) w') : o.wp P a w K Q := by
 unfold Oper.wp; rw [hrun]; exact h
theorem zk {w' : World} (hrun : (execOp a.eval o).run P w = .ok .skip w') (h : K (a.put o.dst undef) w') : o.wp P a w K Q := by
 unfold Oper.wp; rw [hrun]; exact h
theorem Inv.dst (h : Inv w0 G S a w) {av : AV} {v : Value} (hv : iE G w av v) : Inv w0 G (S.puts (dR o av)) (a.put o.dst v) w := by
 unfold dR
 cases o.dst with
 | none => exact h
 | some d => exact h.fU d hv
theorem Yl {c : C} {v : Value} (h : kY G w c v) : iE G w (ady c) v := by
 cases c <;> first | trivial | exact h
theorem oN {x : V} {v : Value} (h : pR G w x v) : iE G w (Fb x) v := by
 cases x with
 | one c => exact Yl h
 | agg cs => exact h
theorem xJ : iE G w (.tup []) undef := ⟨[], rfl, trivial⟩
theorem CO {v : Value} (h : v.oneCell' = true) : v.cells = #[v] := by
 cases v <;> first | rfl | (simp [Value.oneCell'] at h)
theorem pR.NT {x : V} {v : Value} (h : pR G w x v) : ∃ vs : List Value, v.cells = vs.toArray /\ bY G w x.cells vs := by
 cases x with
 | one c => exact ⟨[v], CO (kY.one h), ⟨h, trivial⟩⟩
 | agg cs => obtain ⟨vs, rfl, hc⟩ := h; exact ⟨vs, rfl, hc⟩
theorem bY.seg {cs : List C} {vs : List Value} (h : bY G w cs vs) (off n : Nat) : bY G w (seg cs off n) (Abs.seg vs off n) := by
 obtain ⟨hl, hg⟩ := h.get
 refine bY.mk (by simp [Abs.seg, hl]) fun i c v hc hv => ?_
 simp only [Abs.seg, List.getElem?_take, List.getElem?_drop] at hc hv
 split at hc
 ·rename_i hi; rw [if_pos hi] at hv; exact hg _ c v hc hv
 ·cases hc
theorem bY.bT {cs cs' : List C} {vs vs' : List Value} (h : bY G w cs vs) (h' : bY G w cs' vs') (off : Nat) : bY G w (bT cs off cs') (Abs.bT vs off vs') := by
 obtain ⟨hl, hg⟩ := h.get
 obtain ⟨hl', hg'⟩ := h'.get
 refine bY.mk (by simp [Abs.bT, hl, hl']) fun i c v hc hv => ?_
 simp only [Abs.bT, List.getElem?_append, List.getElem?_take, List.getElem?_drop, List.length_append, List.length_take, hl, hl'] at hc hv
 split at hc
 ·rename_i h1
  rw [if_pos h1] at hv
  split at hc
  ·rename_i h2
   rw [if_pos h2] at hv
   split at hc
   ·rename_i h3; rw [if_pos h3] at hv; exact hg _ c v hc hv
   ·cases hc
  ·rename_i h2; rw [if_neg h2] at hv; exact hg' _ c v hc hv
 ·rename_i h1; rw [if_neg h1] at hv; exact hg _ c v hc hv
theorem bY.length {cs : List C} {vs : List Value} (h : bY G w cs vs) : cs.length = vs.length := h.get.1
theorem O6 {agg : Bool} {cs : List C} {x : V} {vs : List Value} (hx : mkV agg cs = some x) (hc : bY G w cs vs) :
  (agg = true -> pR G w x (.agg vs.toArray)) /\ (agg = false -> ∃ v, vs = [v] /\ pR G w x v) := by
 unfold mkV at hx
 split at hx
 ·cases hx; exact ⟨fun _ => ⟨vs, rfl, hc⟩, by simp⟩
 ·cases hx
  match vs, hc with
  | [v], hc => exact ⟨by simp, fun _ => ⟨v, rfl, hc.1⟩⟩
 ·cases hx
theorem addr_add (g o j : Nat) : (⟨g, o, none⟩ : Addr).add j = ⟨g, o + j, none⟩ := by unfold Addr.add; split <;> simp_all
theorem jV (T : TypeId) (g off : Nat) (d : TypeDesc) (i : TypeInfo) (hu : P.underlying T = some d) (hi : P.info? T = some i) (hd : Ei d = true) (ls : List Value) (hl : ls.length = i.size)
  (hc : ∀ j v, ls[j]? = some v -> w.cell? ⟨g, off + j, none⟩ = some v) : (loadVar T ⟨g, off, none⟩).run P w = .ok (.agg ls.toArray) w := by
 have h1 : (loadCells ⟨g, off, none⟩ ls.length).run P w = .ok ls.toArray w := run_loadCells_list (P := P) w ⟨g, off, none⟩ ls fun j v hv => by rw [addr_add]; exact hc j v hv
 have hagg : (isAgg T).run P w = .ok true w := by
  unfold isAgg
  rw [Sem.run_bind, run_underlying hu w]
  cases d <;> simp_all [Ei]
 rw [hl] at h1
 simp [loadVar, Sem.run_bind, hagg, sizeOf, typeInfo, hi, h1]
theorem ny (T : TypeId) (g off : Nat) (d : TypeDesc) (hu : P.underlying T = some d) (hd : Ei d = false) (v : Value)
  (hc : w.cell? ⟨g, off, none⟩ = some v) : (loadVar T ⟨g, off, none⟩).run P w = .ok v w := by
 have hagg : (isAgg T).run P w = .ok false w := by
  unfold isAgg
  rw [Sem.run_bind, run_underlying hu w]
  cases d <;> simp_all [Ei]
 simp [loadVar, Sem.run_bind, hagg, hc]
theorem qJ {T : TT} (hT : T.ok P = true) (h : Inv w0 G S a w) {t : TypeId} {p : Operand} (ho : o.op = .load t p) {agg : Bool} {n : Nat} (hs : lk T.shape t = some (agg, n))
  {g off : Nat} (hp : a.eval p = .pointer (some ⟨g, off, none⟩)) {cs : List C} {vs : List Value} (hc : bY G w cs vs) (hn : cs.length = n)
  (hcell : ∀ j v, vs[j]? = some v -> w.cell? ⟨g, off + j, none⟩ = some v) {x : V} (hx : mkV agg cs = some x)
  (hK : ∀ a' w' G', Inv w0 G' (S.puts (dR o (Fb x))) a' w' -> K a' w') : o.wp P a w K Q := by
 obtain ⟨d, i, hu, hi, hsz, hd⟩ := TT.qQ hT hs
 obtain ⟨h1, h2⟩ := O6 hx hc
 have hl := hc.length
 cases agg with
 | true =>
  refine aJ (v := .agg vs.toArray) (w' := w) ?_ (hK _ _ _ (h.dst (oN (h1 rfl))))
  have := jV (w := w) t g off d i hu hi hd vs (by omega) hcell
  unfold execOp
  simp only [ho, hp, Instr.loadAt, Instr.sureAddr, Sem.run_bind, Sem.run_pure, Result.andThen_ok, this]
 | false =>
  obtain ⟨v, rfl, hv⟩ := h2 rfl
  refine aJ (v := v) (w' := w) ?_ (hK _ _ _ (h.dst (oN hv)))
  have := ny (w := w) t g off d hu hd v (hcell 0 v rfl)
  unfold execOp
  simp only [ho, hp, Instr.loadAt, Instr.sureAddr, Sem.run_bind, Sem.run_pure, Result.andThen_ok, this]
theorem Zn (h : Inv w0 G S a w) {d : Nat} (hd : o.dst = some d) {cs : List C} {ws : List W} (hv : (uq d cs).val S = some ws) {vs : List Value} {e : TypeId} (hc : bY G w cs vs)
  (hrun : (execOp a.eval o).run P w = .ok (.value (.pointer (some ⟨w.heap.size, 0, none⟩))) (w.alloc (.cells vs.toArray e)))
  (hK : ∀ a' w' G', Inv w0 G' (S.puts ws) a' w' -> K a' w') : o.wp P a w K Q := by
 unfold uq at hv
 split at hv
 case isTrue => cases hv
 rename_i hd0
 simp only [Rd.val] at hv
 split at hv
 ·rename_i hb
  simp only [Rd.val, zD] at hv
  subst hv
  have hbel : Below w.heap.size w (w.alloc (.cells vs.toArray e)) := (Below.refl _ _).alloc (Nat.le_refl _) _
  have h1 := h.grow hbel
  have hm : Mv G G w (w.alloc (.cells vs.toArray e)) := ⟨fun b o hs => ⟨hs, hbel.cell (p := ⟨b, o, none⟩) (h.sok b o hs).1⟩, fun k hk => ⟨hk, fun _ => rfl⟩, fun i hi => ⟨hi, rfl⟩⟩
  obtain ⟨G', h2⟩ := h1.uq d w.heap.size hd0 hb h.below.size
   (by cases hx : G.ow w.heap.size with
     | none => rfl
     | some y => exact absurd (h.olt _ _ hx).2 (Nat.lt_irrefl _))
   (fun o hs => absurd (h.sok _ o hs).1 (Nat.lt_irrefl _)) (heap_alloc_new w _) (hc.move hm)
  refine aJ hrun (hK _ _ G' ?_)
  rw [hd]
  exact h2
 ·cases hv
theorem VW (h : Inv w0 G S a w) {x : Operand} (ho : o.op = .move x \/ o.op = .assign x) {E : Env} {ws : List W} (hv : (eff E o).val S = some ws)
  (hK : ∀ a' w' G', Inv w0 G' (S.puts ws) a' w' -> K a' w') : o.wp P a w K Q := by
 have hv' : ((dn x).bind fun a => .ret (dR o a)).val S = some ws := by
  rcases ho with ho | ho <;> (unfold eff at hv; rw [ho] at hv; exact hv)
 simp only [Rd.ak, zB, Rd.val, zD] at hv'
 obtain ⟨av, h1, rfl⟩ := hv'
 refine aJ (v := a.eval x) (w' := w) ?_ (hK _ _ _ (h.dst (aS h h1)))
 rcases ho with ho | ho <;> (unfold execOp; simp only [ho]; rfl)
theorem abj (h : Inv w0 G S a w) {c x y : Operand} (ho : o.op = .pick c x y) {E : Env} {ws : List W} (hv : (eff E o).val S = some ws)
  (hK : ∀ a' w' G', Inv w0 G' (S.puts ws) a' w' -> K a' w') : o.wp P a w K Q := by
 unfold eff at hv
 rw [ho] at hv
 simp only [Rd.ak, zB] at hv
 obtain ⟨av, h1, d, h2, hv⟩ := hv
 have hr := jW h2 (aS h h1)
 split at hv
 ·simp only [Rd.ak, zB, Rd.val, zD] at hv
  obtain ⟨av', h3, rfl⟩ := hv
  generalize hcv : a.eval c = cv at hr
  cases hr
  refine aJ (v := a.eval x) (w' := w) ?_ (hK _ _ _ (h.dst (aS h h3)))
  unfold execOp; simp [ho, hcv, asBool]
 ·simp only [Rd.ak, zB, Rd.val, zD] at hv
  obtain ⟨av', h3, rfl⟩ := hv
  generalize hcv : a.eval c = cv at hr
  cases hr
  refine aJ (v := a.eval y) (w' := w) ?_ (hK _ _ _ (h.dst (aS h h3)))
  unfold execOp; simp [ho, hcv, asBool]
 ·cases hv
theorem Zp (h : Inv w0 G S a w) {e : TypeId} (ho : o.op = .alloc e) {E : Env} (hT : E.tt.ok P = true) {ws : List W} (hv : (eff E o).val S = some ws)
  (hK : ∀ a' w' G', Inv w0 G' (S.puts ws) a' w' -> K a' w') : o.wp P a w K Q := by
 unfold eff at hv
 rw [ho] at hv
 simp only at hv
 split at hv
 ·rename_i d cs hd hz
  obtain ⟨i, z, hi, hz, hm⟩ := TT.Vu hT hz
  refine Zn h hd hv (vs := z.cells.toList) (e := e) (jY _ _ hm) ?_ hK
  unfold execOp
  simp [ho, Instr.alloc, zeroValue, typeInfo, hi, hz, newVar, newRow]
 ·cases hv
theorem abo (h : Inv w0 G S a w) {e : TypeId} {x : Operand} (ho : o.op = .box e x) {E : Env} {ws : List W} (hv : (eff E o).val S = some ws)
  (hK : ∀ a' w' G', Inv w0 G' (S.puts ws) a' w' -> K a' w') : o.wp P a w K Q := by
 unfold eff at hv
 rw [ho] at hv
 simp only at hv
 split at hv
 ·rename_i d hd
  simp only [Rd.ak, zB] at hv
  obtain ⟨av, h1, x', h2, hv⟩ := hv
  have hr := lZ h2 (aS h h1)
  obtain ⟨vs, hvc, hc⟩ := hr.NT
  refine Zn h hd hv (vs := vs) (e := e) hc ?_ hK
  unfold execOp
  simp [ho, Instr.box, newVar, newRow, hvc]
 ·cases hv
def AN (G : Gh) (k j b : Nat) : Prop := G.ow b = some (.own k j) /\ ∀ len cap, G.ov k j ≠ .slice (some ⟨b, 0, none⟩) len cap
theorem Zr {x : O} {t : Ty} {xs : List t.den} {deep m : Bool} (h : x = .own t xs deep m) : ∀ t xs, ¬ x.IsT t xs := by
 rintro t xs (h' | ⟨i, h'⟩ | h') <;> rw [h] at h' <;> cases h'
theorem Inv.addN (h : Inv w0 G S a w) (k j : Nat) (hT : ∀ t xs, ¬ (aU (S.aC k) j).IsT t xs) : Inv w0 { G with S := fun b o => G.S b o \/ (b < w.heap.size /\ AN G k j b) } S a w /\ Mv G { G with S := fun b o => G.S b o \/ (b < w.heap.size /\ AN G k j b) } w w :=
 h.Vp _ (fun b o hb => ⟨hb.1, fun i hi => (by rw [hb.2.1] at hi; cases hi), fun k' j' t xs deep m _ len cap hov how => by
  rw [hb.2.1] at how
  cases how
  exact absurd hov (hb.2.2 len cap)⟩) (fun b o hb => (h.kz hb.2.1).1) fun b o hb k' j' t xs hx how => by
  rw [hb.2.1] at how
  cases how
  exact hT t xs hx
theorem abl (h : Inv w0 G S a w) {t : TypeId} {p : Operand} (ho : o.op = .load t p) {E : Env} (hT : E.tt.ok P = true) {ws : List W} (hv : (eff E o).val S = some ws)
  (hpart : ∀ agg n k j i sz off ty xs m, lk E.tt.shape t = some (agg, n) -> (dn p).val S = some (.oelt k j i sz off) -> aU (S.aC k) j = .part ty xs m -> (Oa o agg n k j i sz off ty xs m).val S = some ws -> o.wp P a w K Q)
  (hK : ∀ a' w' G', Inv w0 G' (S.puts ws) a' w' -> K a' w') : o.wp P a w K Q := by
 unfold eff at hv
 rw [ho] at hv
 simp only at hv
 split at hv
 ·cases hv
 rename_i agg n hs
 simp only [Rd.ak, zB] at hv
 obtain ⟨av, h1, hv⟩ := hv
 have hr := aS h h1
 split at hv
 ·rename_i b off
  simp only [Rd.val] at hv
  split at hv
  ·rename_i cs hcs
   simp only [Rd.val, zB] at hv
   obtain ⟨x, hx, hv⟩ := hv
   split at hv
   ·rename_i hn
    simp only [Rd.val, zD] at hv
    subst hv
    obtain ⟨_, vs, e, hh, hc⟩ := h.box b cs hcs
    refine qJ hT h ho hs (g := G.bk b) (off := off) hr.2 (hc.seg off n) hn (fun j v hv => ?_) hx hK
    rw [cell_of_row w _ _ _ _ _ hh]
    simp only [Abs.seg, List.getElem?_take, List.getElem?_drop] at hv
    split at hv
    ·simpa using hv
    ·cases hv
   ·cases hv
  ·cases hv
 ·rename_i ty x off
  simp only [Rd.val, zB] at hv
  obtain ⟨y, hy, hv⟩ := hv
  split at hv
  ·rename_i hn
   simp only [Rd.val, zD] at hv
   subst hv
   obtain ⟨b, of, hpv, vs, hvs⟩ := hr
   have hlen : (seg (ty.cells x) off n).length = n := hn
   have hj : ∀ j, j < n -> ∃ d, (ty.cells x)[off + j]? = some d /\ (seg (ty.cells x) off n)[j]? = some d := by
    intro j hj
    have : j < (seg (ty.cells x) off n).length := by omega
    refine ⟨(seg (ty.cells x) off n)[j], ?_, by simp [this]⟩
    have e : (seg (ty.cells x) off n)[j]? = some (seg (ty.cells x) off n)[j] := by simp [this]
    simp only [Abs.seg, List.getElem?_take, List.getElem?_drop] at e
    rw [if_pos hj] at e
    exact e
   refine qJ hT h ho hs (g := b) (off := of + off) hpv (cs := (seg (ty.cells x) off n).map .d) (vs := (List.range n).map fun j => vs (off + j)) ?_ (by simp [hlen]) ?_ hy hK
   ·refine bY.mk (by simp [hlen]) fun j c v hc hv => ?_
    simp only [List.getElem?_map, Option.map_eq_some_iff] at hc hv
    obtain ⟨d, hd, rfl⟩ := hc
    obtain ⟨j', hj', rfl⟩ := hv
    have hjn : j < n := by
     have := (zC.1 hj').1; simpa using this
    have : j' = j := by simp [hjn] at hj'; exact hj'.symm
    subst this
    obtain ⟨d', h3, h4⟩ := hj j' hjn
    rw [hd] at h4
    cases h4
    exact (hvs _ _ h3).2.2
   ·intro j v hv
    simp only [List.getElem?_map, Option.map_eq_some_iff] at hv
    obtain ⟨j', hj', rfl⟩ := hv
    have hjn : j < n := by
     have := (zC.1 hj').1; simpa using this
    have : j' = j := by simp [hjn] at hj'; exact hj'.symm
    subst this
    obtain ⟨d', h3, h4⟩ := hj j' hjn
    rw [Nat.add_assoc]
    exact (hvs _ _ h3).1
  ·cases hv
 ·rename_i k j i sz off
  simp only [Rd.val] at hv
  split at hv
  ·rename_i ty xs deep m hown
   split at hv
   case isFalse => cases hv
   rename_i hsz
   simp only [Rd.val, zB] at hv
   obtain ⟨x, hx, y, hy, hv⟩ := hv
   split at hv
   ·rename_i hn
    simp only [Rd.val, zD] at hv
    subst hv
    obtain ⟨hlk, b, len, cap, hov, hpv⟩ := hr
    obtain ⟨h', hm⟩ := h.addN k j (Zr hown)
    have hO := h.owns k j
    rw [hown] at hO
    rcases hO with ⟨he, _⟩ | ⟨b', cap', arr, e, vs, fps, hv', hb, hcap, hmax, hasz, hfb, hc, hrr, hf, hdis, _⟩
    ·rw [hov] at he; cases he
    rw [hov] at hv'
    injection hv' with e1 e2 e3
    injection e1 with e1
    injection e1 with e1 _ _
    subst e1
    have hlen : (seg (ty.cells x) off n).length = n := hn
    have hj : ∀ j, j < n -> ∃ d, (ty.cells x)[off + j]? = some d /\ (seg (ty.cells x) off n)[j]? = some d := by
     intro j hj
     have : j < (seg (ty.cells x) off n).length := by omega
     refine ⟨(seg (ty.cells x) off n)[j], ?_, by simp [this]⟩
     have e : (seg (ty.cells x) off n)[j]? = some (seg (ty.cells x) off n)[j] := by simp [this]
     simp only [Abs.seg, List.getElem?_take, List.getElem?_drop] at e
     rw [if_pos hj] at e
     exact e
    refine qJ hT h' ho hs (g := b) (off := i * sz + off) hpv (cs := (seg (ty.cells x) off n).map .d) (vs := (List.range n).map fun j => vs i (off + j)) ?_ (by simp [hlen]) ?_ hy hK
    ·refine bY.mk (by simp [hlen]) fun j' c v hc' hv => ?_
     simp only [List.getElem?_map, Option.map_eq_some_iff] at hc' hv
     obtain ⟨d, hd, rfl⟩ := hc'
     obtain ⟨j'', hj', rfl⟩ := hv
     have hjn : j' < n := by
      have := (zC.1 hj').1; simpa using this
     have : j'' = j' := by simp [hjn] at hj'; exact hj'.symm
     subst this
     obtain ⟨d', h3, h4⟩ := hj j'' hjn
     rw [hd] at h4
     cases h4
     refine (hrr i x _ d hx h3).VB (fun b o hs => .inl hs) fun c o hcc _ => .inr ?_
     have := hf _ _ _ hcc
     refine ⟨(h.olt _ _ this.1).2, this.1, fun len' cap'' heq => ?_⟩
     rw [hov] at heq
     injection heq with e1 _ _
     injection e1 with e1
     injection e1 with e1 _ _
     exact this.2 e1.symm
    ·intro j' v hv
     simp only [List.getElem?_map, Option.map_eq_some_iff] at hv
     obtain ⟨j'', hj', rfl⟩ := hv
     have hjn : j' < n := by
      have := (zC.1 hj').1; simpa using this
     have : j'' = j' := by simp [hjn] at hj'; exact hj'.symm
     subst this
     obtain ⟨d', h3, h4⟩ := hj j'' hjn
     have := hc i x _ d' hx h3
     rw [cell_of_row w _ _ _ _ _ hb, Nat.add_assoc, <- hsz]
     exact this
   ·cases hv
  ·rename_i hown
   exact hpart _ _ _ _ _ _ _ _ _ _ hs h1 hown hv
  ·cases hv
 ·cases hv
theorem OX (h : Inv w0 G S a w) {s : TypeId} {p : Operand} {f : Nat} (ho : o.op = .fieldAddr s p f) {E : Env} (hT : E.tt.ok P = true) {ws : List W} (hv : (eff E o).val S = some ws)
  (hK : ∀ a' w' G', Inv w0 G' (S.puts ws) a' w' -> K a' w') : o.wp P a w K Q := by
 unfold eff at hv
 rw [ho] at hv
 simp only at hv
 split at hv
 ·cases hv
 rename_i fo agg n hf
 obtain ⟨F, fd, d, i, hu, hF, hoff, hdu, hi, _, hsz, hpos⟩ := TT.JM hT hf
 simp only [Rd.ak, zB] at hv
 obtain ⟨av, h1, hv⟩ := hv
 have hr := aS h h1
 have run : ∀ g off, a.eval p = .pointer (some ⟨g, off, none⟩) -> (execOp a.eval o).run P w = .ok (.value (.pointer (some ⟨g, off + fo, none⟩))) w := by
  intro g off hp
  have hne : i.size ≠ 0 := by omega
  unfold execOp
  simp only [ho, hp, Instr.fieldAt, Sem.run_bind, run_underlying hu, Result.andThen_ok, hF, Instr.sureAddr, Sem.run_pure, fieldPlace, sizeOf, typeInfo, run_program, hi]
  simp [hne, hoff, addr_add]
 split at hv
 ·rename_i b off
  simp only [Rd.val, zD] at hv
  subst hv
  exact aJ (run _ _ hr.2) (hK _ _ _ (h.dst (av := .v (.one (.ptr b (off + fo)))) ⟨hr.1, rfl⟩))
 ·rename_i ty x off
  simp only [Rd.val, zD] at hv
  subst hv
  obtain ⟨b, of, hpv, he⟩ := hr
  refine aJ (run _ _ hpv) (hK _ _ _ (h.dst (av := .elt ty x (off + fo)) ⟨b, of, ?_, he⟩))
  rw [Nat.add_assoc]
 ·rename_i k j i sz off
  simp only [Rd.val, zD] at hv
  subst hv
  obtain ⟨hlk, b, len, cap, hov, hpv⟩ := hr
  refine aJ (run _ _ hpv) (hK _ _ _ (h.dst (av := .oelt k j i sz (off + fo)) ⟨hlk, b, len, cap, hov, ?_⟩))
  rw [Nat.add_assoc]
 ·cases hv
end ops
end Go.Abs
namespace Go.Abs
open Go.RowKit
theorem rU {α : Type} {xs : List α} {n : Int} {x : α} (h : idx xs n = some x) : 0 <= n /\ n < xs.length /\ xs[n.toNat]? = some x := by
 unfold idx at h
 split at h
 ·rename_i h0
  have := (zC.1 h).1
  exact ⟨h0, by omega, h⟩
 ·cases h
theorem lQ (b : ByteArray) : b.data.toList.length = b.size := by rw [Array.length_toList]; rfl
theorem oC (b : ByteArray) : b.toList = b.data.toList := by
 have key : ∀ (n i : Nat) (r : List UInt8), b.size - i = n -> ByteArray.toList.loop b i r = r.reverse ++ b.data.toList.drop i := by
  intro n
  induction n with
  | zero =>
   intro i r hn
   unfold ByteArray.toList.loop
   have hi : ¬ i < b.size := by omega
   rw [if_neg hi]
   have : b.data.toList.drop i = [] := by
    rw [List.drop_eq_nil_iff]
    have := lQ b
    omega
   rw [this]; simp
  | succ n ih =>
   intro i r hn
   unfold ByteArray.toList.loop
   have hi : i < b.size := by omega
   rw [if_pos hi, ih (i + 1) _ (by omega)]
   have hi' : i < b.data.toList.length := by rw [lQ]; exact hi
   rw [List.drop_eq_getElem_cons hi']
   have : b.get! i = b.data.toList[i] := by
    have h2 : i < b.data.size := hi
    simp only [ByteArray.get!, Array.getElem_toList]
    exact getElem!_pos b.data i h2
   rw [this]; simp
 have := key _ 0 [] rfl
 simpa [ByteArray.toList] using this
section ops
variable {P : Program} {w0 : Bs} {G : Gh} {S : St} {a : Act} {w : World} {o : Oper} {K : Act -> World -> Prop} {Q : Exit -> Act -> World -> Prop}
theorem run_indexAt (T e : TypeId) (i : TypeInfo) (hu : P.underlying T = some (.slice e)) (hi : P.info? e = some i) (g off len cap : Nat) (k : IntKind) (n : Int) (h0 : 0 <= n) (h1 : n < len) :
  (Instr.indexAt T (.slice (some ⟨g, off, none⟩) len cap) (.int k n)).run P w = .ok (.pointer (some ⟨g, off + n.toNat * i.size, none⟩)) w := by
 simp [Instr.indexAt, asIntOf, run_underlying hu, h0, h1, sizeOf, typeInfo, hi, addr_add]
theorem OW (h : Inv w0 G S a w) {T : TypeId} {x i : Operand} (ho : o.op = .indexAddr T x i) {E : Env} (hT : E.tt.ok P = true) {ws : List W} (hv : (eff E o).val S = some ws)
  (hK : ∀ a' w' G', Inv w0 G' (S.puts ws) a' w' -> K a' w') : o.wp P a w K Q := by
 unfold eff at hv
 rw [ho] at hv
 simp only at hv
 split at hv
 ·cases hv
 rename_i t ht
 obtain ⟨e, inf, z, hu, hi, hsz, _⟩ := TT.gY hT ht
 simp only [Rd.ak, zB] at hv
 obtain ⟨av, h1, av', h2, n, h3, hv⟩ := hv
 have hr := aS h h1
 obtain ⟨kk, hn⟩ := oO h3 (aS h h2)
 have run : ∀ g off len cap, a.eval x = .slice (some ⟨g, off, none⟩) len cap -> 0 <= n -> n < len -> (execOp a.eval o).run P w = .ok (.value (.pointer (some ⟨g, off + n.toNat * t.size, none⟩))) w := by
  intro g off len cap hx h0 hl
  have := run_indexAt (w := w) T e inf hu hi g off len cap kk n h0 hl
  rw [hsz] at this
  unfold execOp
  simp [ho, hx, hn, this]
 -- an element of a stable list
 have stable : ∀ (xs : List t.den) (y : t.den) (v : Value), Rep w G.S (.list t xs) v -> a.eval x = v -> idx xs n = some y -> ∃ v', (execOp a.eval o).run P w = .ok (.value v') w /\ iE G w (.elt t y 0) v' := by
  intro xs y v hrep hx hy
  obtain ⟨h0, hl, hxy⟩ := rU hy
  cases hrep with
  | nil => simp at hl; omega
  | emp => simp at hl; omega
  | list _ _ b off cap vs hcap hc hr =>
   refine ⟨_, run b off _ cap hx h0 hl, b, off + n.toNat * t.size, rfl, fun j => vs n.toNat j, fun j d hd => ?_⟩
   have := hc _ _ _ _ hxy hd
   rw [Nat.add_assoc]
   exact ⟨this.1, this.2, hr _ _ _ _ hxy hd⟩
 split at hv
 ·rename_i t' xs
  split at hv
  ·rename_i htt
   subst htt
   simp only [Rd.val, zB, zD] at hv
   obtain ⟨y, hy, rfl⟩ := hv
   obtain ⟨v', hrun, hrep⟩ := stable xs y _ hr rfl hy
   exact aJ hrun (hK _ _ _ (h.dst hrep))
  ·cases hv
 ·rename_i k j
  simp only [Rd.val] at hv
  split at hv
  ·rename_i t' xs deep m hown
   split at hv
   ·rename_i htt
    subst htt
    simp only [Rd.val, zB, zD] at hv
    obtain ⟨y, hy, rfl⟩ := hv
    obtain ⟨h0, hl, hxy⟩ := rU hy
    have hO := h.owns k j
    rw [hown] at hO
    rcases hO with ⟨_, he⟩ | ⟨b, cap, arr, e', vs, fps, hv', _⟩
    ·subst he; simp at hl; omega
    refine aJ (run b 0 xs.length cap (by rw [hr.2.1]; exact hv') h0 hl) (hK _ _ _ (h.dst (av := .oelt k j n.toNat t'.size 0) ⟨hr.1, b, xs.length, cap, hv', ?_⟩))
    simp
   ·cases hv
  ·rename_i t' xs hown
   split at hv
   ·rename_i htt
    subst htt
    simp only [Rd.val, zB, zD] at hv
    obtain ⟨y, hy, rfl⟩ := hv
    obtain ⟨v', hrun, hrep⟩ := stable xs y _ (h.OO hown) hr.2.1 hy
    exact aJ hrun (hK _ _ _ (h.dst hrep))
   ·cases hv
  ·rename_i t' xs m hown
   split at hv
   ·rename_i htt
    subst htt
    simp only [Rd.val, zB, zD] at hv
    obtain ⟨y, hy, rfl⟩ := hv
    obtain ⟨h0, hl, hxy⟩ := rU hy
    have hO := h.owns k j
    rw [hown] at hO
    rcases hO with ⟨_, he⟩ | ⟨b, cap, arr, e', vs, fps, hv', _⟩
    ·subst he; simp at hl; omega
    refine aJ (run b 0 xs.length cap (by rw [hr.2.1]; exact hv') h0 hl) (hK _ _ _ (h.dst (av := .oelt k j n.toNat t'.size 0) ⟨hr.1, b, xs.length, cap, hv', ?_⟩))
    simp
   ·cases hv
  ·rename_i t' xs hown
   split at hv
   ·rename_i htt
    subst htt
    simp only [Rd.val, zB, zD] at hv
    obtain ⟨y, hy, rfl⟩ := hv
    obtain ⟨h0, hl, hxy⟩ := rU hy
    have hO := h.owns k j
    rw [hown] at hO
    obtain ⟨fp, q1, q2, q3⟩ := hO
    have hP : gu w G.S t' xs n.toNat (G.ov k j) (eH G k j) := (gu.IK q2 q1 q3).at n.toNat
    have h2 := h.AB k j (.part t' xs n.toNat) hP
    rcases hP with ⟨_, he⟩ | ⟨b, cap, arr, e', vs, fps, hv', _⟩
    ·subst he; simp at hl; omega
    refine aJ (run b 0 xs.length cap (by rw [hr.2.1]; exact hv') h0 hl) (hK _ _ _ (h2.dst (av := .oelt k j n.toNat t'.size 0) ⟨hr.1, b, xs.length, cap, hv', ?_⟩))
    simp
   ·cases hv
  ·cases hv
 ·cases hv
theorem Zh (h : Inv w0 G S a w) {T : TypeId} {x i : Operand} (ho : o.op = .index T x i) {E : Env} (hT : E.tt.ok P = true) {ws : List W} (hv : (eff E o).val S = some ws)
  (hK : ∀ a' w' G', Inv w0 G' (S.puts ws) a' w' -> K a' w') : o.wp P a w K Q := by
 unfold eff at hv
 rw [ho] at hv
 simp only at hv
 split at hv
 ·rename_i hs
  have hu := TT.GI hT hs
  simp only [Rd.ak, zB] at hv
  obtain ⟨av, h1, d, h2, hv⟩ := hv
  have hr := jW h2 (aS h h1)
  split at hv
  ·rename_i s
   simp only [Rd.ak, zB, Rd.val, zD] at hv
   obtain ⟨av', h3, n, h4, c, h5, rfl⟩ := hv
   obtain ⟨kk, hn⟩ := oO h4 (aS h h3)
   obtain ⟨h0, hl, hx⟩ := rU h5
   generalize hxv : a.eval x = xv at hr
   cases hr with
   | str v =>
    refine aJ (v := .int .u8 c.toNat) (w' := w) ?_ (hK _ _ _ (h.dst (Rep.int _ _)))
    have hc : v[n.toNat]? = some c := by
     have hl' : n.toNat < v.size := by
      have := lQ v
      omega
     rw [getElem?_pos v n.toNat hl']
     have : v.data.toList[n.toNat]? = some v[n.toNat] := by
      have h6 : n.toNat < v.data.size := hl'
      rw [Array.getElem?_toList, getElem?_pos v.data n.toNat h6]; rfl
     rw [hx] at this
     exact this.symm
    unfold execOp
    simp [ho, hxv, hn, Instr.index, asIntOf, run_underlying hu, h0, hc]
  ·cases hv
 ·cases hv
theorem kL.get {xs : List V} {us : List Value} (h : kL G w xs us) : xs.length = us.length /\ ∀ (i : Nat) (x : V) (u : Value), xs[i]? = some x -> us[i]? = some u -> pR G w x u := by
 induction xs generalizing us with
 | nil => cases us with
  | nil => exact ⟨rfl, fun i x u hx => by simp at hx⟩
  | cons u us => exact h.elim
 | cons x xs ih => cases us with
  | nil => exact h.elim
  | cons u us =>
   obtain ⟨hl, hg⟩ := ih h.2
   refine ⟨by simp [hl], fun i y v hy hv => ?_⟩
   cases i with
   | zero => simp at hy hv; subst hy; subst hv; exact h.1
   | succ i => simp at hy hv; exact hg i y v hy hv
theorem UG (h : Inv w0 G S a w) {x : Operand} {i : Nat} (ho : o.op = .extract x i) {E : Env} {ws : List W} (hv : (eff E o).val S = some ws)
  (hK : ∀ a' w' G', Inv w0 G' (S.puts ws) a' w' -> K a' w') : o.wp P a w K Q := by
 unfold eff at hv
 rw [ho] at hv
 simp only [Rd.ak, zB] at hv
 obtain ⟨av, h1, hv⟩ := hv
 have hr := aS h h1
 split at hv
 ·rename_i vs
  simp only [Rd.val, zB, zD] at hv
  obtain ⟨y, hy, rfl⟩ := hv
  obtain ⟨us, hx, hus⟩ := hr
  obtain ⟨hl, hg⟩ := hus.get
  have hi : i < us.length := by have := (zC.1 hy).1; omega
  refine aJ (v := us[i]) (w' := w) ?_ (hK _ _ _ (h.dst (oN (hg i y us[i] hy (by simp [hi])))))
  unfold execOp
  simp [ho, hx, Instr.extract, hi]
 ·cases hv
theorem TS {p q : Str} {u v : Value} (hx : Rep w G.S (.str p) u) (hy : Rep w G.S (.str q) v) (hg : p.length + q.length <= 34359738368) (T : TypeId) :
  ∃ r, (binOp .add T u v).run P w = .ok r w /\ Rep w G.S (.str (p ++ q)) r := by
 generalize hdp : D.str p = dp at hx
 generalize hdq : D.str q = dq at hy
 cases hx <;> cases hdp
 cases hy <;> cases hdq
 rename_i s s'
 rw [lQ, lQ] at hg
 refine ⟨.string (s ++ s'), ?_, ?_⟩
 ·have : ¬ (((s.size + s'.size : Nat) : Int) > IntKind.i64.max) := by
   have : IntKind.i64.max = 9223372036854775807 := by decide
   rw [this]; omega
  simp only [binOp, Op.stringOp]
  rw [if_neg this]
  rfl
 ·have e : s.data.toList ++ s'.data.toList = (s ++ s').data.toList := by simp
  rw [e]
  exact .str _
theorem aav {op : BinOp} {x y z : D} {u v : Value} (hz : ad6 op x y = some z) (hx : Rep w G.S x u) (hy : Rep w G.S y v) (T : TypeId)
  (hb : ∀ p q, x = .bool p -> y = .bool q -> P.underlying T = some .bool) :
  ∃ r, (binOp op T u v).run P w = .ok r w /\ Rep w G.S z r := by
 unfold ad6 at hz
 split at hz
 ·rename_i k p k' q
  split at hz
  ·rename_i hk
   subst hk
   cases hx; cases hy
   unfold binI at hz
   split at hz <;> cases hz <;> refine ⟨_, ?_, by first | exact Rep.int _ _ | exact Rep.bool _⟩ <;> simp [binOp, Op.intArith, Op.intCmp, Op.intBits] <;> rfl
  ·cases hz
 ·rename_i p q
  cases hx with
  | str s =>
  cases hy with
  | str s' =>
   unfold binS at hz
   split at hz
   all_goals
    first
     | (cases hz; refine ⟨_, ?_, Rep.bool _⟩; simp [binOp, Op.stringOp, oC]; done)
     | (cases hz; refine ⟨_, ?_, Rep.bool _⟩; simp only [binOp, Op.stringOp, oC]; rfl)
     | cases hz
 ·rename_i p q
  cases hx; cases hy
  have hu := hb p q rfl rfl
  unfold binB at hz
  split at hz
  ·cases hz; exact ⟨_, run_eql_bool w T p q hu, Rep.bool _⟩
  ·cases hz; exact ⟨_, run_neq_bool w T p q hu, Rep.bool _⟩
  ·cases hz
 ·cases hz
end ops
end Go.Abs
namespace Go.Abs
open Go.RowKit
theorem Nq (d e : D) : ∀ (ds es : List D), ds.length = es.length -> yL (d :: ds) (e :: es) = (eqD d e && yL ds es)
 | [], [], _ => by simp [yL]
 | _ :: _, _ :: _, _ => rfl
theorem E8 : ∀ (d1 e1 d2 e2 : List D), d1.length = e1.length -> d2.length = e2.length -> yL (d1 ++ d2) (e1 ++ e2) = (yL d1 e1 && yL d2 e2)
 | [], [], d2, e2, _, _ => by simp [yL]
 | d :: d1, e :: e1, d2, e2, h1, h2 => by
  have h1' : d1.length = e1.length := by simpa using h1
  simp only [List.cons_append]
  rw [Nq _ _ _ _ (by simp [h1', h2]), Nq _ _ _ _ h1', E8 d1 e1 d2 e2 h1' h2, Bool.and_assoc]
 | [], _ :: _, _, _, h, _ => by simp at h
 | _ :: _, [], _, _, h, _ => by simp at h
theorem Ee : ∀ {ks : List Kd} {cs : List C} {ds : List D}, Tn ks cs = some ds -> cs = ds.map .d /\ ds.map kd = ks
 | [], [], ds, h => by simp only [Tn, zD] at h; subst h; exact ⟨rfl, rfl⟩
 | [], _ :: _, ds, h => by simp [Tn] at h
 | _ :: _, [], ds, h => by simp [Tn] at h
 | k :: ks, c :: cs, ds, h => by
  simp only [Tn] at h
  split at h
  ·rename_i d hd
   split at h
   ·rename_i ds' hds
    cases h
    obtain ⟨h1, h2⟩ := Ee hds
    unfold cKd at hd
    split at hd
    ·split at hd
     ·rename_i hk
      cases hd
      exact ⟨by rw [h1]; rfl, by simp [hk, h2]⟩
     ·cases hd
    ·cases hd
   ·cases h
  ·cases h
section eqs
variable {P : Program} {w : World} {S : Nat -> Nat -> Prop}
def FT (w : World) (S : Nat -> Nat -> Prop) (ds : List D) (vs : List Value) : Prop := ds.length = vs.length /\ ∀ (i : Nat) (d : D) (v : Value), ds[i]? = some d -> vs[i]? = some v -> Rep w S d v
theorem FT.seg {ds : List D} {vs : List Value} (h : FT w S ds vs) (o n : Nat) : FT w S ((ds.drop o).take n) ((vs.drop o).take n) := by
 refine ⟨by simp [h.1], fun i d v hd hv => ?_⟩
 rw [List.getElem?_take] at hd hv
 split at hd
 ·rename_i hi
  rw [if_pos hi] at hv
  rw [List.getElem?_drop] at hd hv
  exact h.2 _ d v hd hv
 ·cases hd
theorem Jh {d : D} {v : Value} {k : IntKind} (hk : kd d = .int k) (h : Rep w S d v) : ∃ n, d = .int k n /\ v = .int k n := by
 cases h <;> simp only [kd] at hk <;> cases hk
 exact ⟨_, rfl, rfl⟩
theorem ET {d : D} {v : Value} (hk : kd d = .bool) (h : Rep w S d v) : ∃ b, d = .bool b /\ v = .bool b := by
 cases h <;> simp only [kd] at hk <;> cases hk
 exact ⟨_, rfl, rfl⟩
theorem Jg {d : D} {v : Value} (hk : kd d = .str) (h : Rep w S d v) : ∃ s : ByteArray, d = .str s.data.toList /\ v = .string s := by
 cases h <;> simp only [kd] at hk <;> cases hk
 exact ⟨_, rfl, rfl⟩
def vk (P : Program) (t : TypeId) (vs : List Value) : Value := match P.underlying t with
 | some (.struct _) => .agg vs.toArray
 | _ => vs.headD undef
theorem QY {t : TypeId} {ks : List Kd} {n : Nat} (hk : LW P n t = some ks) (hl : ks.length = P.cellsOf t) {vs : List Value} {off : Nat} (hle : off + ks.length <= vs.length) :
  (part t vs.toArray off).run P w = .ok (vk P t ((vs.drop off).take ks.length)) w := by
 cases n with
 | zero => simp [LW] at hk
 | succ n =>
  rw [LW] at hk
  have one : ∀ d, P.underlying t = some d -> Ei d = false -> ks.length = 1 -> (match d with | .struct _ => false | _ => true) = true -> (part t vs.toArray off).run P w = .ok (vk P t ((vs.drop off).take ks.length)) w := by
   intro d hu hd h1 hns
   have hagg : (isAgg t).run P w = .ok false w := by
    unfold isAgg
    rw [Sem.run_bind, run_underlying hu w]
    cases d <;> simp_all [Ei]
   have hlt : off < vs.length := by omega
   have e1 : vk P t ((vs.drop off).take ks.length) = vs[off] := by
    unfold vk
    rw [hu]
    have : ((vs.drop off).take ks.length).headD undef = vs[off] := by
     rw [h1, List.drop_eq_getElem_cons hlt]; rfl
    cases d <;> first | exact this | simp at hns
   rw [e1]
   simp [part, hagg, hlt]
  split at hk
  ·rename_i hu; cases hk; exact one _ hu rfl rfl rfl
  ·rename_i k hu; cases hk; exact one _ hu rfl rfl rfl
  ·rename_i hu; cases hk; exact one _ hu rfl rfl rfl
  ·rename_i fs hu
   have hagg : (isAgg t).run P w = .ok true w := by
    unfold isAgg
    rw [Sem.run_bind, run_underlying hu w]
    rfl
   have hinfo : ∃ i, P.info? t = some i /\ i.size = P.cellsOf t := by
    unfold Program.underlying at hu
    cases hi : P.info? t with
    | none => rw [hi] at hu; cases hu
    | some i => exact ⟨i, rfl, by simp [Program.cellsOf, hi]⟩
   obtain ⟨i, hi, hs⟩ := hinfo
   unfold vk
   rw [hu]
   simp [part, hagg, sizeOf, typeInfo, hi, hs, <- hl]
  ·cases hk
theorem SN : ∀ (n m : Nat) (t : TypeId) (ks : List Kd) (ds es : List D) (vs us : List Value), LW P n t = some ks -> ds.map kd = ks -> es.map kd = ks -> FT w S ds vs -> FT w S es us ->
  (Op.equalIn (n + m) t (vk P t vs) (vk P t us)).run P w = .ok (yL ds es) w
 | 0, m, t, ks, ds, es, vs, us, hk, _, _, _, _ => by simp [LW] at hk
 | n + 1, m, t, ks, ds, es, vs, us, hk, hd, he, hv, hu' => by
  have hn : n + 1 + m = (n + m) + 1 := by omega
  rw [hn]
  rw [LW] at hk
  split at hk
  ·rename_i hu
   cases hk
   obtain ⟨d, rfl, kd1⟩ := List.map_eq_singleton_iff.1 hd
   obtain ⟨e, rfl, ke1⟩ := List.map_eq_singleton_iff.1 he
   have hvl := hv.1
   match vs, hvl with
   | [v], _ =>
   match us, hu' with
   | [u], hu' =>
    obtain ⟨a, rfl, rfl⟩ := ET kd1 (hv.2 0 _ _ rfl rfl)
    obtain ⟨b, rfl, rfl⟩ := ET ke1 (hu'.2 0 _ _ rfl rfl)
    simp only [vk, hu, List.headD_cons]
    exact run_equalIn_bool' w (n + m) t a b hu
   | [], hu' => simp [FT] at hu'
   | _ :: _ :: _, hu' => simp [FT] at hu'
  ·rename_i k hu
   cases hk
   obtain ⟨d, rfl, kd1⟩ := List.map_eq_singleton_iff.1 hd
   obtain ⟨e, rfl, ke1⟩ := List.map_eq_singleton_iff.1 he
   have hvl := hv.1
   match vs, hvl with
   | [v], _ =>
   match us, hu' with
   | [u], hu' =>
    obtain ⟨a, rfl, rfl⟩ := Jh kd1 (hv.2 0 _ _ rfl rfl)
    obtain ⟨b, rfl, rfl⟩ := Jh ke1 (hu'.2 0 _ _ rfl rfl)
    simp only [vk, hu, List.headD_cons]
    exact run_equalIn_int w (n + m) t k k a b hu
   | [], hu' => simp [FT] at hu'
   | _ :: _ :: _, hu' => simp [FT] at hu'
  ·rename_i hu
   cases hk
   obtain ⟨d, rfl, kd1⟩ := List.map_eq_singleton_iff.1 hd
   obtain ⟨e, rfl, ke1⟩ := List.map_eq_singleton_iff.1 he
   have hvl := hv.1
   match vs, hvl with
   | [v], _ =>
   match us, hu' with
   | [u], hu' =>
    obtain ⟨a, rfl, rfl⟩ := Jg kd1 (hv.2 0 _ _ rfl rfl)
    obtain ⟨b, rfl, rfl⟩ := Jg ke1 (hu'.2 0 _ _ rfl rfl)
    simp only [vk, hu, List.headD_cons]
    rw [run_equalIn_string w (n + m) t a b hu, oC, oC]
    rfl
   | [], hu' => simp [FT] at hu'
   | _ :: _ :: _, hu' => simp [FT] at hu'
  ·rename_i fs hu
   split at hk
   ·cases hk
   rename_i hst
   simp only [zB] at hk
   obtain ⟨k, hk, hk'⟩ := hk
   split at hk'
   case isFalse => cases hk'
   rename_i hkl
   obtain rfl := Option.some.inj hk'
   have hfs : P.fieldsOf t = fs := by simp [Program.fieldsOf, hu]
   simp only [vk, hu]
   rw [run_equalIn_struct w (n + m) t _ _ (by rw [hfs]; exact hu) (by simpa using hst), hfs]
   have key : ∀ (fl : List Field) (off : Nat) (kk : List Kd), SK P (LW P n) off fl = some kk -> off + kk.length <= ds.length -> ((ds.drop off).take kk.length).map kd = kk -> ((es.drop off).take kk.length).map kd = kk ->
     (Op.eqFields (n + m) vs.toArray us.toArray fl).run P w = .ok (yL ((ds.drop off).take kk.length) ((es.drop off).take kk.length)) w := by
    intro fl
    induction fl with
    | nil =>
     intro off kk hkk _ _ _
     simp only [SK, zD] at hkk
     subst hkk
     simp [Op.eqFields, yL]
    | cons f fl ih =>
     intro off kk hkk hle h1 h2
     simp only [SK] at hkk
     split at hkk
     case isFalse => cases hkk
     rename_i hf
     simp only [zB] at hkk
     obtain ⟨k1, hk1, hkk⟩ := hkk
     split at hkk
     case isFalse => cases hkk
     rename_i hl1
     rw [Option.map_eq_some_iff] at hkk
     obtain ⟨k2, hk2, rfl⟩ := hkk
     have hdl := hv.1
     have hel := hu'.1
     have hds : ds.length = es.length := by
      have := congrArg List.length (hd.trans he.symm)
      simpa using this
     rw [List.length_append] at hle
     have e1 : ∀ (l : List D), (l.drop off).take (k1 ++ k2).length = (l.drop off).take k1.length ++ (l.drop (off + k1.length)).take k2.length := by
      intro l
      rw [List.length_append, List.take_add, List.drop_drop]
     rw [e1] at h1 h2 ⊢
     rw [e1]
     rw [List.map_append] at h1 h2
     have len1 : ∀ (l : List D), off + (k1.length + k2.length) <= l.length -> (((l.drop off).take k1.length).map kd).length = k1.length := by
      intro l hl; simp; omega
     obtain ⟨a1, a2⟩ := List.append_inj h1 (len1 ds hle)
     obtain ⟨b1, b2⟩ := List.append_inj h2 (len1 es (by omega))
     have p1 := QY (w := w) hk1 hl1 (vs := vs) (off := off) (by omega)
     have p2 := QY (w := w) hk1 hl1 (vs := us) (off := off) (by omega)
     have ih1 := SN n m f.type k1 ((ds.drop off).take k1.length) ((es.drop off).take k1.length) ((vs.drop off).take k1.length) ((us.drop off).take k1.length) hk1 a1 b1 (hv.seg _ _) (hu'.seg _ _)
     have ih2 := ih (off + k1.length) k2 hk2 (by omega) a2 b2
     rw [E8 _ _ _ _ (by simp [hds]) (by simp [hds])]
     simp only [Op.eqFields, hf.1, ne_eq, not_false_eq_true, if_true, Sem.run_bind, hf.2, p1, p2, Result.andThen_ok, ih1]
     cases yL ((ds.drop off).take k1.length) ((es.drop off).take k1.length) with
     | false => simp
     | true => simpa using ih2
   have hdl : k.length = ds.length := by rw [<- hd]; simp
   have hel : k.length = es.length := by rw [<- he]; simp
   have e1 : (ds.drop 0).take k.length = ds := by rw [hdl]; simp
   have e2 : (es.drop 0).take k.length = es := by rw [hel]; simp
   have := key fs.toList 0 k hk (by omega) (by rw [e1]; exact hd) (by rw [e2]; exact he)
   rw [e1, e2] at this
   exact this
  ·cases hk
end eqs
end Go.Abs
