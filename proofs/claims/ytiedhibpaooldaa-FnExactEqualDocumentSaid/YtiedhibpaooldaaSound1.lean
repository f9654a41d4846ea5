/- What the abstract evaluator's states say of the machine's, and how that is kept. -/
import Derived.Test.YtiedhibpaooldaaAbs
namespace Go.Abs
open Go.RowKit

/-! readers -/
theorem Rd.val_bind {α β : Type} (p : Rd α) (g : α → Rd β) (S : St) : (p.bind g).val S = (p.val S).bind fun a => (g a).val S := by
  induction p with
  | ret a => rfl
  | fail => rfl
  | gT i f ih => exact ih _
  | gB i f ih => exact ih _
  | gO i f ih => exact ih _
  | gN f ih => exact ih _
  | opt o f ih =>
    cases o with
    | none => rfl
    | some x => exact ih x
theorem Rd.runK_eq {α ρ : Type} (p : Rd α) (S : St) (k : α → Option ρ) : p.runK S k = (p.val S).bind k := by
  induction p with
  | ret a => rfl
  | fail => rfl
  | gT i f ih => exact ih _
  | gB i f ih => exact ih _
  | gO i f ih => exact ih _
  | gN f ih => exact ih _
  | opt o f ih =>
    cases o with
    | none => rfl
    | some x => exact ih x

def Rd.valL {α : Type} : Rd α → St → List L → Option (α × List L)
  | .ret a, _, l => some (a, l)
  | .fail, _, _ => none
  | .gT i f, S, l => (f (S.getT i)).valL S (.t i :: l)
  | .gB i f, S, l => (f (S.getB i)).valL S (.b i :: l)
  | .gO i f, S, l => (f (S.getO i)).valL S (.o i :: l)
  | .gN _, _, _ => none
  | .opt o f, S, l => o.bind fun x => (f x).valL S l
theorem Rd.runL_eq {α ρ : Type} (p : Rd α) (S : St) (l : List L) (k : α → List L → Option ρ) :
    p.runL S l k = (p.valL S l).bind fun x => k x.1 x.2 := by
  induction p generalizing l with
  | ret a => rfl
  | fail => rfl
  | gT i f ih => exact ih _ _
  | gB i f ih => exact ih _ _
  | gO i f ih => exact ih _ _
  | gN f ih => rfl
  | opt o f ih =>
    cases o with
    | none => rfl
    | some x => exact ih x l
theorem Rd.valL_val {α : Type} {p : Rd α} {S : St} : ∀ {l : List L} {a : α} {rs : List L}, p.valL S l = some (a, rs) → p.val S = some a := by
  induction p with
  | ret a => intro l b rs h; simp only [valL, Option.some.injEq, Prod.mk.injEq] at h; exact congrArg some h.1
  | fail => intro l b rs h; cases h
  | gT i f ih => intro l b rs h; exact ih _ h
  | gB i f ih => intro l b rs h; exact ih _ h
  | gO i f ih => intro l b rs h; exact ih _ h
  | gN f ih => intro l b rs h; cases h
  | opt o f ih =>
    intro l b rs h
    cases o with
    | none => cases h
    | some x => exact ih x h
theorem Rd.valL_mono {α : Type} {p : Rd α} {S : St} : ∀ {l : List L} {a : α} {rs : List L}, p.valL S l = some (a, rs) → ∀ x, x ∈ l → x ∈ rs := by
  induction p with
  | ret a => intro l b rs h x hx; simp only [valL, Option.some.injEq, Prod.mk.injEq] at h; exact h.2 ▸ hx
  | fail => intro l b rs h; cases h
  | gT i f ih => intro l b rs h x hx; exact ih _ h x (List.mem_cons_of_mem _ hx)
  | gB i f ih => intro l b rs h x hx; exact ih _ h x (List.mem_cons_of_mem _ hx)
  | gO i f ih => intro l b rs h x hx; exact ih _ h x (List.mem_cons_of_mem _ hx)
  | gN f ih => intro l b rs h; cases h
  | opt o f ih =>
    intro l b rs h x hx
    cases o with
    | none => cases h
    | some y => exact ih y h x hx
def agree (S S' : St) : L → Prop
  | .t i => S'.getT i = S.getT i
  | .b i => S'.getB i = S.getB i
  | .o i => S'.getO i = S.getO i
theorem Rd.valL_frame {α : Type} {p : Rd α} {S S' : St} : ∀ {l : List L} {a : α} {rs : List L}, p.valL S l = some (a, rs) → (∀ x, x ∈ rs → agree S S' x) → p.valL S' l = some (a, rs) := by
  induction p with
  | ret a => intro l b rs h _; exact h
  | fail => intro l b rs h; cases h
  | gT i f ih =>
    intro l b rs h hx
    have e : S'.getT i = S.getT i := hx (.t i) (valL_mono (p := f (S.getT i)) h (.t i) List.mem_cons_self)
    simp only [valL, e]; exact ih _ h hx
  | gB i f ih =>
    intro l b rs h hx
    have e : S'.getB i = S.getB i := hx (.b i) (valL_mono (p := f (S.getB i)) h (.b i) List.mem_cons_self)
    simp only [valL, e]; exact ih _ h hx
  | gO i f ih =>
    intro l b rs h hx
    have e : S'.getO i = S.getO i := hx (.o i) (valL_mono (p := f (S.getO i)) h (.o i) List.mem_cons_self)
    simp only [valL, e]; exact ih _ h hx
  | gN f ih => intro l b rs h; cases h
  | opt o f ih =>
    intro l b rs h hx
    cases o with
    | none => cases h
    | some y => exact ih y h hx

/-! readings of memory -/
/-- The value reads as the data; every cell on the way is one of 'S'. -/
inductive Rep (w : World) (S : Nat → Nat → Prop) : D → Value → Prop
  | int (k : IntKind) (n : Int) : Rep w S (.int k n) (.int k n)
  | bool (b : Bool) : Rep w S (.bool b) (.bool b)
  | str (v : ByteArray) : Rep w S (.str v.data.toList) (.string v)
  | nil (t : Ty) : Rep w S (.list t []) (.slice none 0 0)
  | emp (t : Ty) (a : Addr) (cap : Nat) : Rep w S (.list t []) (.slice (some a) 0 cap)
  | list (t : Ty) (xs : List t.den) (b off cap : Nat) (vs : Nat → Nat → Value) (hcap : xs.length ≤ cap)
      (hc : ∀ (i : Nat) (x : t.den) (j : Nat) (d : D), xs[i]? = some x → (t.cells x)[j]? = some d →
        w.cell? ⟨b, off + (i * t.size + j), none⟩ = some (vs i j) ∧ S b (off + (i * t.size + j)))
      (hr : ∀ (i : Nat) (x : t.den) (j : Nat) (d : D), xs[i]? = some x → (t.cells x)[j]? = some d → Rep w S d (vs i j)) :
      Rep w S (.list t xs) (.slice (some ⟨b, off, none⟩) xs.length cap)

theorem Rep.move {w w' : World} {S S' : Nat → Nat → Prop} {d : D} {v : Value} (h : Rep w S d v)
    (hS : ∀ b o, S b o → S' b o ∧ w'.cell? ⟨b, o, none⟩ = w.cell? ⟨b, o, none⟩) : Rep w' S' d v := by
  induction h with
  | int k n => exact .int k n
  | bool b => exact .bool b
  | str v => exact .str v
  | nil t => exact .nil t
  | emp t a cap => exact .emp t a cap
  | list t xs b off cap vs hcap hc hr ih =>
    exact .list t xs b off cap vs hcap (fun i x j d hx hd => ⟨(hS _ _ (hc i x j d hx hd).2).2.trans (hc i x j d hx hd).1, (hS _ _ (hc i x j d hx hd).2).1⟩) ih

theorem Rep.one {w : World} {S : Nat → Nat → Prop} {d : D} {v : Value} (h : Rep w S d v) : v.oneCell' = true := by
  cases h <;> rfl

/-- The value reads as the data, and every row on the way is a row of its own, one of 'fp', but for what is read as stable where 'deep' does not bar that. -/
inductive Ow (w : World) (S : Nat → Nat → Prop) (deep : Bool) : D → Value → (Nat → Prop) → Prop
  | int (k : IntKind) (n : Int) (fp : Nat → Prop) : Ow w S deep (.int k n) (.int k n) fp
  | bool (b : Bool) (fp : Nat → Prop) : Ow w S deep (.bool b) (.bool b) fp
  | str (v : ByteArray) (fp : Nat → Prop) : Ow w S deep (.str v.data.toList) (.string v) fp
  | nil (t : Ty) (fp : Nat → Prop) : Ow w S deep (.list t []) (.slice none 0 0) fp
  | ro (d : D) (v : Value) (fp : Nat → Prop) (hd : deep = false) (h : Rep w S d v) : Ow w S deep d v fp
  | list (t : Ty) (xs : List t.den) (b cap : Nat) (arr : Array Value) (E : TypeId) (vs : Nat → Nat → Value) (fps : Nat → Nat → Nat → Prop) (fp : Nat → Prop)
      (hb : w.heap[b]? = some (.cells arr E (0, 0))) (hcap : xs.length ≤ cap) (hmax : cap ≤ maxLen) (hsz : arr.size = cap * t.size) (hfb : fp b)
      (hc : ∀ (i : Nat) (x : t.den) (j : Nat) (d : D), xs[i]? = some x → (t.cells x)[j]? = some d → arr[i * t.size + j]? = some (vs i j))
      (hr : ∀ (i : Nat) (x : t.den) (j : Nat) (d : D), xs[i]? = some x → (t.cells x)[j]? = some d → Ow w S deep d (vs i j) (fps i j))
      (hf : ∀ i j c, fps i j c → fp c ∧ c ≠ b)
      (hdis : ∀ i j i' j' c, fps i j c → fps i' j' c → i = i' ∧ j = j') :
      Ow w S deep (.list t xs) (.slice (some ⟨b, 0, none⟩) xs.length cap) fp

theorem Ow.move {w w' : World} {S S' : Nat → Nat → Prop} {deep : Bool} {d : D} {v : Value} {fp : Nat → Prop} (h : Ow w S deep d v fp)
    (hS : ∀ b o, S b o → S' b o ∧ w'.cell? ⟨b, o, none⟩ = w.cell? ⟨b, o, none⟩) (hfp : ∀ b, fp b → w'.heap[b]? = w.heap[b]?) : Ow w' S' deep d v fp := by
  induction h with
  | int k n fp => exact .int k n fp
  | bool b fp => exact .bool b fp
  | str v fp => exact .str v fp
  | nil t fp => exact .nil t fp
  | ro d v fp hd h => exact .ro d v fp hd (h.move hS)
  | list t xs b cap arr E vs fps fp hb hcap hmax hsz hfb hc hr hf hdis ih =>
    exact .list t xs b cap arr E vs fps fp ((hfp b hfb).trans hb) hcap hmax hsz hfb hc (fun i x j d hx hd => ih i x j d hx hd fun c hcc => hfp c (hf i j c hcc).1) hf hdis
theorem Ow.sub {w : World} {S : Nat → Nat → Prop} {deep deep' : Bool} {d : D} {v : Value} {fp fp' : Nat → Prop} (h : Ow w S deep d v fp)
    (hfp : ∀ b, fp b → fp' b) (hd : deep' = true → deep = true) : Ow w S deep' d v fp' := by
  induction h generalizing fp' with
  | int k n fp => exact .int k n _
  | bool b fp => exact .bool b _
  | str v fp => exact .str v _
  | nil t fp => exact .nil t _
  | ro d v fp hd' h =>
    refine .ro d v _ ?_ h
    cases hx : deep' with
    | false => rfl
    | true => rw [hd hx] at hd'; cases hd'
  | list t xs b cap arr E vs fps fp hb hcap hmax hsz hfb hc hr hf hdis ih =>
    exact .list t xs b cap arr E vs fps fp' hb hcap hmax hsz (hfp b hfb) hc (fun i x j d hx hd => ih i x j d hx hd fun _ h => h) (fun i j c h => ⟨hfp c (hf i j c h).1, (hf i j c h).2⟩) hdis
theorem Ow.one {w : World} {S : Nat → Nat → Prop} {deep : Bool} {d : D} {v : Value} {fp : Nat → Prop} (h : Ow w S deep d v fp) : v.oneCell' = true := by
  cases h with
  | ro d v fp hd h => exact h.one
  | _ => rfl

/-- An owned row reads as stable where every cell that it reads is one of 'S''. -/
theorem Ow.toRep {w : World} {S S' : Nat → Nat → Prop} {deep : Bool} {d : D} {v : Value} {fp : Nat → Prop} (h : Ow w S deep d v fp)
    (hS : ∀ b o, S b o → S' b o) (hfp : ∀ b o, fp b → (∃ u, w.cell? ⟨b, o, none⟩ = some u) → S' b o) : Rep w S' d v := by
  induction h with
  | int k n fp => exact .int k n
  | bool b fp => exact .bool b
  | str v fp => exact .str v
  | nil t fp => exact .nil t
  | ro d v fp hd h => exact h.move fun b o hs => ⟨hS b o hs, rfl⟩
  | list t xs b cap arr E vs fps fp hb hcap hmax hsz hfb hc hr hf hdis ih =>
    refine .list t xs b 0 cap vs hcap (fun i x j d hx hd => ?_) (fun i x j d hx hd => ih i x j d hx hd fun c o hcc => hfp c o (hf i j c hcc).1)
    have e : w.cell? ⟨b, 0 + (i * t.size + j), none⟩ = some (vs i j) := by
      simp only [Nat.zero_add, World.cell?, hb]; simpa using hc i x j d hx hd
    exact ⟨e, hfp b _ hfb ⟨_, e⟩⟩

inductive Owner where
  | box (i : Nat)
  | own (k j : Nat)

structure Gh where
  bk : Nat → Nat
  ov : Nat → Nat → Value
  ow : Nat → Option Owner
  S : Nat → Nat → Prop
  lk : Nat → Prop
  lb : Nat → Prop

def CRep (G : Gh) (w : World) : C → Value → Prop
  | .undef, v => v.oneCell' = true
  | .d x, v => Rep w G.S x v
  | .nil, v => v = .slice none 0 0
  | .own k j, v => G.lk k ∧ v = G.ov k j ∧ v.oneCell' = true
  | .ptr b off, v => G.lb b ∧ v = .pointer (some ⟨G.bk b, off, none⟩)
theorem CRep.one {G : Gh} {w : World} {c : C} {v : Value} (h : CRep G w c v) : v.oneCell' = true := by
  cases c with
  | undef => exact h
  | d x => exact Rep.one h
  | nil => rw [show v = _ from h]; rfl
  | own k j => exact h.2.2
  | ptr b off => rw [show v = _ from h.2]; rfl

def CsRep (G : Gh) (w : World) : List C → List Value → Prop
  | [], [] => True
  | c :: cs, v :: vs => CRep G w c v ∧ CsRep G w cs vs
  | _, _ => False
def VRep (G : Gh) (w : World) : V → Value → Prop
  | .one c, v => CRep G w c v
  | .agg cs, v => ∃ vs : List Value, v = .agg vs.toArray ∧ CsRep G w cs vs
def VsRep (G : Gh) (w : World) : List V → List Value → Prop
  | [], [] => True
  | c :: cs, v :: vs => VRep G w c v ∧ VsRep G w cs vs
  | _, _ => False
/-- the cells of an element, from a place on -/
def EltRep (G : Gh) (w : World) (t : Ty) (x : t.den) (b o : Nat) : Prop :=
  ∃ vs : Nat → Value, ∀ (j : Nat) (d : D), (t.cells x)[j]? = some d → w.cell? ⟨b, o + j, none⟩ = some (vs j) ∧ G.S b (o + j) ∧ Rep w G.S d (vs j)
def AVRep (G : Gh) (w : World) : AV → Value → Prop
  | .undef, _ => True
  | .v x, v => VRep G w x v
  | .elt t x off, v => ∃ b o, v = .pointer (some ⟨b, o + off, none⟩) ∧ EltRep G w t x b o
  | .oelt k j i sz off, v => G.lk k ∧ ∃ b len cap, G.ov k j = .slice (some ⟨b, 0, none⟩) len cap ∧ v = .pointer (some ⟨b, i * sz + off, none⟩)
  | .tup vs, v => ∃ us : List Value, v = .tuple us.toArray ∧ VsRep G w vs us

/-- the rows of an owned list -/
def fpOf (G : Gh) (k j : Nat) : Nat → Prop := fun b => G.ow b = some (.own k j)
/-- The list under a key: its row is its own. -/
def OwT (w : World) (S : Nat → Nat → Prop) (deep m : Bool) (t : Ty) (xs : List t.den) (v : Value) (fp : Nat → Prop) : Prop :=
  (v = .slice none 0 0 ∧ xs = []) ∨
  ∃ (b cap : Nat) (arr : Array Value) (E : TypeId) (vs : Nat → Nat → Value) (fps : Nat → Nat → Nat → Prop),
    v = .slice (some ⟨b, 0, none⟩) xs.length cap ∧ w.heap[b]? = some (.cells arr E (0, 0)) ∧ xs.length ≤ cap ∧ cap ≤ maxLen ∧ arr.size = cap * t.size ∧ fp b ∧
    (∀ (i : Nat) (x : t.den) (j : Nat) (d : D), xs[i]? = some x → (t.cells x)[j]? = some d → arr[i * t.size + j]? = some (vs i j)) ∧
    (∀ (i : Nat) (x : t.den) (j : Nat) (d : D), xs[i]? = some x → (t.cells x)[j]? = some d → Ow w S deep d (vs i j) (fps i j)) ∧
    (∀ i j c, fps i j c → fp c ∧ c ≠ b) ∧
    (∀ i j i' j' c, fps i j c → fps i' j' c → i = i' ∧ j = j') ∧
    (∀ o, S b o → m = false ∧ o < xs.length * t.size)
theorem OwT.ow {w : World} {S : Nat → Nat → Prop} {deep m : Bool} {t : Ty} {xs : List t.den} {v : Value} {fp : Nat → Prop} (h : OwT w S deep m t xs v fp) :
    Ow w S deep (.list t xs) v fp := by
  rcases h with ⟨rfl, rfl⟩ | ⟨b, cap, arr, E, vs, fps, rfl, hb, hcap, hmax, hsz, hfb, hc, hr, hf, hdis, _⟩
  · exact .nil t fp
  · exact .list t xs b cap arr E vs fps fp hb hcap hmax hsz hfb hc hr hf hdis
def OwnOk (G : Gh) (w : World) (k j : Nat) : O → Prop
  | .dead => True
  | .own t xs deep m => OwT w G.S deep m t xs (G.ov k j) (fpOf G k j)
  | .ro t xs => Rep w G.S (.list t xs) (G.ov k j)
def BoxOk (G : Gh) (w : World) (i : Nat) (cs : List C) : Prop :=
  G.ow (G.bk i) = some (.box i) ∧ ∃ (vs : List Value) (E : TypeId), w.heap[G.bk i]? = some (.cells vs.toArray E (0, 0)) ∧ CsRep G w cs vs

/-- where the call began: the world, and the cells that its arguments are read by -/
structure Bs where
  w : World
  S0 : Nat → Nat → Prop

structure Inv (w0 : Bs) (G : Gh) (S : St) (a : Act) (w : World) : Prop where
  below : Below w0.w.heap.size w0.w w
  nodef : a.defers = []
  tsz : a.tmps.size = S.tmps.length
  bsz : S.boxes.length = S.tmps.length
  osz : S.owns.length = S.tmps.length
  tmps : ∀ i v, a.tmps[i]? = some v → AVRep G w (S.getT i) v
  olt : ∀ b x, G.ow b = some x → w0.w.heap.size ≤ b ∧ b < w.heap.size
  sok : ∀ b o, G.S b o → b < w.heap.size ∧ ∀ i, G.ow b ≠ some (.box i)
  box : ∀ i cs, S.getB i = some cs → BoxOk G w i cs
  owns : ∀ k j, OwnOk G w k j (oget (S.getO k) j)
  lk : ∀ k, G.lk k → S.getO k ≠ []
  lb : ∀ i, G.lb i → S.getB i ≠ none
  sfr : ∀ b o, G.S b o → b < w0.w.heap.size → w0.S0 b o

/-! how the readings are kept -/
/-- From one state of ghosts and world to the next: what is stable stays, and so do the keys in use. -/
structure Mv (G G' : Gh) (w w' : World) : Prop where
  s : ∀ b o, G.S b o → G'.S b o ∧ w'.cell? ⟨b, o, none⟩ = w.cell? ⟨b, o, none⟩
  k : ∀ k, G.lk k → G'.lk k ∧ ∀ j, G'.ov k j = G.ov k j
  b : ∀ i, G.lb i → G'.lb i ∧ G'.bk i = G.bk i

theorem CRep.move {G G' : Gh} {w w' : World} (hm : Mv G G' w w') {c : C} {v : Value} (h : CRep G w c v) : CRep G' w' c v := by
  cases c with
  | undef => exact h
  | d x => exact Rep.move h hm.s
  | nil => exact h
  | own k j => exact ⟨(hm.k k h.1).1, by rw [(hm.k k h.1).2 j]; exact h.2.1, h.2.2⟩
  | ptr b off => exact ⟨(hm.b b h.1).1, by rw [(hm.b b h.1).2]; exact h.2⟩
theorem CsRep.get {G : Gh} {w : World} : ∀ {cs : List C} {vs : List Value}, CsRep G w cs vs → cs.length = vs.length ∧ ∀ (i : Nat) (c : C) (v : Value), cs[i]? = some c → vs[i]? = some v → CRep G w c v
  | [], [], _ => ⟨rfl, fun i c v h => by simp at h⟩
  | c :: cs, v :: vs, h => by
    obtain ⟨h1, h2⟩ := h
    obtain ⟨hl, hg⟩ := CsRep.get h2
    refine ⟨by simp [hl], fun i c' v' hc hv => ?_⟩
    cases i with
    | zero => simp at hc hv; subst hc; subst hv; exact h1
    | succ i => simp at hc hv; exact hg i c' v' hc hv
theorem CsRep.mk {G : Gh} {w : World} : ∀ {cs : List C} {vs : List Value}, cs.length = vs.length → (∀ (i : Nat) (c : C) (v : Value), cs[i]? = some c → vs[i]? = some v → CRep G w c v) → CsRep G w cs vs
  | [], [], _, _ => trivial
  | c :: cs, v :: vs, hl, h => ⟨h 0 c v rfl rfl, CsRep.mk (by simpa using hl) fun i c' v' hc hv => h (i + 1) c' v' (by simpa using hc) (by simpa using hv)⟩
theorem CsRep.move {G G' : Gh} {w w' : World} (hm : Mv G G' w w') {cs : List C} {vs : List Value} (h : CsRep G w cs vs) : CsRep G' w' cs vs := by
  obtain ⟨hl, hg⟩ := h.get
  exact CsRep.mk hl fun i c v hc hv => (hg i c v hc hv).move hm
theorem CsRep.one {G : Gh} {w : World} {cs : List C} {vs : List Value} (h : CsRep G w cs vs) : ∀ v, v ∈ vs → v.oneCell' = true := by
  obtain ⟨hl, hg⟩ := h.get
  intro v hv
  obtain ⟨i, hi, rfl⟩ := List.mem_iff_getElem.1 hv
  have hc : i < cs.length := by omega
  exact (hg i cs[i] vs[i] (by simp [hc]) (by simp [hi])).one
theorem VRep.move {G G' : Gh} {w w' : World} (hm : Mv G G' w w') {x : V} {v : Value} (h : VRep G w x v) : VRep G' w' x v := by
  cases x with
  | one c => exact CRep.move hm h
  | agg cs => obtain ⟨vs, hv, hc⟩ := h; exact ⟨vs, hv, hc.move hm⟩
theorem VsRep.move {G G' : Gh} {w w' : World} (hm : Mv G G' w w') : ∀ {xs : List V} {vs : List Value}, VsRep G w xs vs → VsRep G' w' xs vs
  | [], [], _ => trivial
  | _ :: _, _ :: _, h => ⟨h.1.move hm, VsRep.move hm h.2⟩
theorem EltRep.move {G G' : Gh} {w w' : World} (hm : Mv G G' w w') {t : Ty} {x : t.den} {b o : Nat} (h : EltRep G w t x b o) : EltRep G' w' t x b o := by
  obtain ⟨vs, h⟩ := h
  refine ⟨vs, fun j d hd => ?_⟩
  obtain ⟨h1, h2, h3⟩ := h j d hd
  exact ⟨(hm.s _ _ h2).2.trans h1, (hm.s _ _ h2).1, h3.move hm.s⟩
theorem AVRep.move {G G' : Gh} {w w' : World} (hm : Mv G G' w w') {x : AV} {v : Value} (h : AVRep G w x v) : AVRep G' w' x v := by
  cases x with
  | undef => trivial
  | v x => exact VRep.move hm h
  | elt t x off => obtain ⟨b, o, hv, he⟩ := h; exact ⟨b, o, hv, he.move hm⟩
  | oelt k j i sz off => obtain ⟨hk, b, len, cap, ho, hv⟩ := h; exact ⟨(hm.k k hk).1, b, len, cap, by rw [(hm.k k hk).2 j]; exact ho, hv⟩
  | tup vs => obtain ⟨us, hv, hs⟩ := h; exact ⟨us, hv, hs.move hm⟩
theorem OwT.move {w w' : World} {S S' : Nat → Nat → Prop} {deep m : Bool} {t : Ty} {xs : List t.den} {v : Value} {fp fp' : Nat → Prop} (h : OwT w S deep m t xs v fp)
    (hS : ∀ b o, S b o → S' b o ∧ w'.cell? ⟨b, o, none⟩ = w.cell? ⟨b, o, none⟩) (hfp : ∀ b, fp b → fp' b ∧ w'.heap[b]? = w.heap[b]?)
    (hT : ∀ b len cap, v = .slice (some ⟨b, 0, none⟩) len cap → fp b → ∀ o, S' b o → S b o ∨ (m = false ∧ o < xs.length * t.size)) : OwT w' S' deep m t xs v fp' := by
  rcases h with h | ⟨b, cap, arr, E, vs, fps, rfl, hb, hcap, hmax, hsz, hfb, hc, hr, hf, hdis, hs⟩
  · exact .inl h
  · refine .inr ⟨b, cap, arr, E, vs, fps, rfl, (hfp b hfb).2.trans hb, hcap, hmax, hsz, (hfp b hfb).1, hc, ?_, ?_, hdis, ?_⟩
    · exact fun i x j d hx hd => (hr i x j d hx hd).move hS fun c hcc => (hfp c (hf i j c hcc).1).2
    · exact fun i j c hcc => ⟨(hfp c (hf i j c hcc).1).1, (hf i j c hcc).2⟩
    · intro o ho
      rcases hT b _ _ rfl hfb o ho with h | h
      · exact hs o h
      · exact h

/-! slots -/
theorem getT_setT (S : St) (i : Nat) (v : AV) (j : Nat) : (S.setT i v).getT j = if i = j ∧ i < S.tmps.length then v else S.getT j := by
  simp only [St.getT, St.setT, List.getD_eq_getElem?_getD, List.getElem?_set]
  by_cases h : i = j
  · subst h
    by_cases hl : i < S.tmps.length <;> simp [hl]
  · simp [h]
theorem getT_setB (S : St) (i : Nat) (v : Option (List C)) (j : Nat) : (S.setB i v).getT j = S.getT j := rfl
theorem getT_setO (S : St) (i : Nat) (v : List O) (j : Nat) : (S.setO i v).getT j = S.getT j := rfl
theorem getB_setT (S : St) (i : Nat) (v : AV) (j : Nat) : (S.setT i v).getB j = S.getB j := rfl
theorem getO_setT (S : St) (i : Nat) (v : AV) (j : Nat) : (S.setT i v).getO j = S.getO j := rfl
theorem getO_setB (S : St) (i : Nat) (v : Option (List C)) (j : Nat) : (S.setB i v).getO j = S.getO j := rfl
theorem getB_setO (S : St) (i : Nat) (v : List O) (j : Nat) : (S.setO i v).getB j = S.getB j := rfl
theorem getB_setB (S : St) (i : Nat) (v : Option (List C)) (j : Nat) : (S.setB i v).getB j = if i = j ∧ i < S.boxes.length then v else S.getB j := by
  simp only [St.getB, St.setB, List.getD_eq_getElem?_getD, List.getElem?_set]
  by_cases h : i = j
  · subst h
    by_cases hl : i < S.boxes.length <;> simp [hl]
  · simp [h]
theorem getO_setO (S : St) (i : Nat) (v : List O) (j : Nat) : (S.setO i v).getO j = if i = j ∧ i < S.owns.length then v else S.getO j := by
  simp only [St.getO, St.setO, List.getD_eq_getElem?_getD, List.getElem?_set]
  by_cases h : i = j
  · subst h
    by_cases hl : i < S.owns.length <;> simp [hl]
  · simp [h]

section steps
variable {w0 : Bs} {G : Gh} {S : St} {a : Act} {w : World}

/-- A slot is written. -/
theorem Inv.setT (h : Inv w0 G S a w) (d : Nat) {av : AV} {v : Value} (hv : AVRep G w av v) : Inv w0 G (S.setT d av) (a.put (some d) v) w := by
  refine ⟨h.below, h.nodef, ?_, by simp [St.setT, h.bsz], by simp [St.setT, h.osz], ?_, h.olt, h.sok, fun i cs hb => h.box i cs hb, fun k j => h.owns k j, fun k hk => h.lk k hk, fun i hi => h.lb i hi, h.sfr⟩
  · simp [Act.put, St.setT, h.tsz]
  · intro i u hu
    rw [getT_setT]
    simp only [Act.put, Array.getElem?_setIfInBounds] at hu
    by_cases hd : d = i
    · subst hd
      by_cases hl : d < a.tmps.size
      · simp [hl] at hu; subst hu
        have : d < S.tmps.length := h.tsz ▸ hl
        simp [this]; exact hv
      · simp [hl] at hu
    · simp [hd] at hu ⊢
      exact h.tmps i u hu

/-- The world grows and the ghosts with it; nothing that is spoken of turns. -/
theorem Inv.grow (h : Inv w0 G S a w) {w' : World} (hb : Below w.heap.size w w') : Inv w0 G S a w' := by
  have hsz := hb.size
  have hcell : ∀ b o, b < w.heap.size → w'.cell? ⟨b, o, none⟩ = w.cell? ⟨b, o, none⟩ := fun b o hl => hb.cell (p := ⟨b, o, none⟩) hl
  have hm : Mv G G w w' := ⟨fun b o hs => ⟨hs, hcell b o (h.sok b o hs).1⟩, fun k hk => ⟨hk, fun _ => rfl⟩, fun i hi => ⟨hi, rfl⟩⟩
  refine ⟨h.below.trans (hb.mono h.below.size), h.nodef, h.tsz, h.bsz, h.osz, fun i v hv => (h.tmps i v hv).move hm, fun b x hx => ⟨(h.olt b x hx).1, by have := (h.olt b x hx).2; omega⟩,
    fun b o hs => ⟨by have := (h.sok b o hs).1; omega, (h.sok b o hs).2⟩, ?_, ?_, h.lk, h.lb, h.sfr⟩
  · intro i cs hcs
    obtain ⟨ho, vs, E, hh, hc⟩ := h.box i cs hcs
    exact ⟨ho, vs, E, (hb.block _ (h.olt _ _ ho).2).trans hh, hc.move hm⟩
  · intro k j
    have := h.owns k j
    revert this
    generalize oget (S.getO k) j = x
    intro hx
    cases x with
    | dead => trivial
    | own t xs deep m => exact OwT.move hx hm.s (fun b hb' => ⟨hb', hb.block _ (h.olt _ _ hb').2⟩) (fun _ _ _ _ _ o ho => .inl ho)
    | ro t xs => exact Rep.move hx hm.s

end steps
end Go.Abs
