import Derived.Test.YtgfjbogcidlaeaaGreatDoorLink1
import Derived.ProofKit
import Derived.SizedLaws
import Derived.ChangeOld
/- A law's statement out of its contract and its plain law. -/
set_option linter.unusedSimpArgs false
set_option linter.unusedVariables false
namespace Go.Abs
open Go.RowKit Go.ChangeShapes
def adF (P : Program) (T : TT) (t : TypeId) (s : Sh) : Bool :=
 (match P.underlying t with
  | some d => Ei d == s.agg
  | none => false) && decide (nU P T 9 t = some s.t.kinds) && (s.agg || decide (s.t.size = 1))
def GL (P : Program) (T : TT) : List TypeId -> List Sh -> Bool
 | [], [] => true
 | t :: ts, s :: ss => adF P T t s && GL P T ts ss
 | _, _ => false
def FitT (L : Nat) (ss : List Sh) (x : Tup ss) : Prop := ∀ d, d ∈ dh ss x -> fC L d
section
variable {H : Type} {enc : TypeId × Value -> H} {P : Program} {T : TT} {w : World}
theorem aO.split {n : Nat} {ds : List D} {vs : List Value} (h : aO (RF w) n ds vs) :
  aO (fun _ d u => Rep w (fun b _ => b < w.heap.size) d u) n ds vs /\ ∀ d, d ∈ ds -> fC reachBytes d := by
 induction ds generalizing n vs with
 | nil => cases vs with
  | nil => exact ⟨trivial, fun d h => by cases h⟩
  | cons => exact h.elim
 | cons d ds ih => cases vs with
  | nil => exact h.elim
  | cons v vs =>
   obtain ⟨h1, h2⟩ := ih h.2
   refine ⟨⟨h.1.1, h1⟩, fun d' hd => ?_⟩
   rcases List.mem_cons.1 hd with rfl | hd
   ·exact h.1.2
   ·exact h2 d' hd
theorem ab5 (hE : sK P T = true) {t : TypeId} {s : Sh} (hs : adF P T t s = true) {v : Value} {d : DataW H} {ps : List MemPlace} (hok : Value.okWide P w .any 0 t v \/ ∃ base, Value.okWide P w .any base t v)
  (h : DataW.Trod enc P w 0 (fun _ => true) true t v d ps) (hw : ∀ m, m ∈ d.weights P t -> m <= reachBytes) (n : Nat) :
  ∃ x : s.t.den, ShR (fun _ d u => Rep w (fun b _ => b < w.heap.size) d u) n s x v /\ ∀ d, d ∈ s.t.cells x -> fC reachBytes d := by
 obtain ⟨base, hok⟩ : ∃ base, Value.okWide P w .any base t v := hok.elim (fun h => ⟨_, h⟩) id
 obtain ⟨fuel, h⟩ := h
 simp only [adF, zI, Bool.or_eq_true, decide_eq_true_eq] at hs
 obtain ⟨⟨hs1, hs2⟩, hs3⟩ := hs
 obtain ⟨ds, hd, hr⟩ := Gv hE fuel 9 t _ d ps _ hs2 h hw
 obtain ⟨x, hx⟩ := yP hd
 obtain ⟨h1, h2⟩ := hr.split
 rw [<- Ty.bV hx] at h1 h2
 refine ⟨x, ?_, h2⟩
 have key : ∀ {m k : Nat} {ds : List D} {vs : List Value}, aO (fun _ d u => Rep w (fun b _ => b < w.heap.size) d u) m ds vs -> aO (fun _ d u => Rep w (fun b _ => b < w.heap.size) d u) k ds vs := by
  intro m k ds
  induction ds generalizing m k with
  | nil => intro vs h; cases vs with
   | nil => trivial
   | cons => exact h.elim
  | cons d ds ih => intro vs h; cases vs with
   | nil => exact h.elim
   | cons v vs => exact ⟨h.1, ih h.2⟩
 unfold Value.okWide at hok
 split at hs1
 case h_2 => cases hs1
 rename_i dd hu
 rw [hu] at hok
 unfold ShR
 cases ha : s.agg with
 | true =>
  rw [ha, beq_iff_eq] at hs1
  have : ∃ cs, v = .agg cs := by
   cases dd <;> simp [Ei] at hs1
   ·obtain ⟨cs, e, _⟩ := hok; exact ⟨cs, e⟩
   ·obtain ⟨cs, e, _⟩ := hok; exact ⟨cs, e⟩
  obtain ⟨cs, rfl⟩ := this
  exact ⟨cs.toList, by simp, key h1⟩
 | false =>
  have hl := h1.get.1
  rw [Ty.aQ, hs3.resolve_left (by rw [ha]; simp)] at hl
  have h3 : v.cells.toList = [v] := by
   have hd : dd = .bool \/ (∃ k, dd = .int k) \/ dd = .string \/ ∃ e, dd = .slice e := by
    rw [ha, beq_iff_eq] at hs1
    rw [nU, hu] at hs2
    cases dd <;> simp [Ei] at hs1 <;> simp at hs2 <;> simp
   have hc : Cell.ok P w .any base t v := by
    rcases hd with rfl | ⟨k, rfl⟩ | rfl | ⟨e, rfl⟩ <;> simpa [Cell.okWide, hu] using hok
   unfold Cell.ok at hc
   rw [hu] at hc
   rcases hd with rfl | ⟨k, rfl⟩ | rfl | ⟨e, rfl⟩ <;> cases v <;> first | rfl | exact hc.elim
  rw [h3] at h1
  exact key h1
theorem TF (hE : sK P T = true) {base : Nat} : ∀ {ts : List TypeId} {ss : List Sh} {vs : List Value} {ds : List (DataW H)} {ps : List MemPlace} (n : Nat), GL P T ts ss = true ->
  (∀ (j : Nat) t v, ts[j]? = some t -> vs[j]? = some v -> Value.okWide P w .any base t v) -> DataW.TrodAll enc P w 0 (fun _ => true) true ts vs ds ps ->
  (∀ m, m ∈ DataW.weightsEach P ts ds -> m <= reachBytes) -> ∃ x : Tup ss, jb (fun _ d u => Rep w (fun b _ => b < w.heap.size) d u) n ss x vs /\ FitT reachBytes ss x
 | [], [], [], [], ps, n, _, _, _, _ => ⟨(), trivial, fun d hd => by cases hd⟩
 | [], [], _ :: _, _, ps, n, _, _, h, _ => by simp [DataW.TrodAll] at h
 | [], [], [], _ :: _, ps, n, _, _, h, _ => by simp [DataW.TrodAll] at h
 | t :: ts, s :: ss, [], ds, ps, n, _, _, h, _ => by simp [DataW.TrodAll] at h
 | t :: ts, s :: ss, v :: vs, [], ps, n, _, _, h, _ => by simp [DataW.TrodAll] at h
 | [], _ :: _, vs, ds, ps, n, hs, _, _, _ => by simp [GL] at hs
 | _ :: _, [], vs, ds, ps, n, hs, _, _, _ => by simp [GL] at hs
 | t :: ts, s :: ss, v :: vs, d :: ds, ps, n, hs, hok, h, hw => by
  simp only [GL, zI] at hs
  obtain ⟨p, q, h1, h2, rfl⟩ := h
  simp only [DataW.weightsEach, List.mem_append] at hw
  obtain ⟨x, hx, fx⟩ := ab5 hE hs.1 (.inr ⟨base, hok 0 t v rfl rfl⟩) h1 (fun m hm => hw m (.inl hm)) n
  obtain ⟨y, hy, fy⟩ := TF hE (n + s.t.size) hs.2 (fun j t v ht hv => hok (j + 1) t v (by simpa using ht) (by simpa using hv)) h2 (fun m hm => hw m (.inr hm))
  cases ss with
  | nil =>
   cases vs with
   | nil => exact ⟨x, hx, fun d hd => fx d hd⟩
   | cons => cases ts <;> simp [GL] at hs; cases ds <;> simp [DataW.TrodAll] at h2
  | cons s' ss =>
   refine ⟨(x, y), ?_, fun d hd => ?_⟩
   ·cases vs with
    | nil => cases ss <;> exact False.elim hy
    | cons u us => exact ⟨hx, hy⟩
   ·simp only [dh, List.mem_append] at hd
    exact hd.elim (fx d) (fy d)
theorem J4 (hl : laidOutB P = true) {w' : World} (hb : Below w.heap.size w w') : ∀ {ts : List TypeId} {vs : List Value} {ds : List (DataW H)} {ps : List MemPlace}, ts.all (fun t => P.readableRec t && decide (t < P.types.size)) = true ->
  DataW.TrodAll enc P w 0 (fun _ => true) true ts vs ds ps -> DataW.TrodAll enc P w' 0 (fun b => decide (b < w.heap.size)) true ts vs ds ps
 | [], [], [], _, _, h => h
 | [], _ :: _, _, _, _, h => by simp [DataW.TrodAll] at h
 | [], [], _ :: _, _, _, h => by simp [DataW.TrodAll] at h
 | _ :: _, [], _, _, _, h => by simp [DataW.TrodAll] at h
 | _ :: _, _ :: _, [], _, _, h => by simp [DataW.TrodAll] at h
 | t :: ts, v :: vs, d :: ds, ps, hr, h => by
  obtain ⟨p, q, h1, h2, rfl⟩ := h
  simp only [List.all_cons, zI, decide_eq_true_eq] at hr
  exact ⟨p, q, Below.trod hl hr.1.1 hr.1.2 h1 hb (fun x hx => (by obtain ⟨n, hn⟩ := h1; exact DataW.trod_lt n _ _ _ hn x hx)), J4 hl hb hr.2 h2, rfl⟩
theorem ZB (hE : sK P T = true) (hl : laidOutB P = true) {fn : Func} {f : Nat} {ss : List Sh} {ex : Bool} {F : Tup ss -> Option Bool} (hs : Sound P { fid := f, ps := ss, rs := [⟨false, .base .bool⟩], ex := ex, fn := F }) (hps : GL P T fn.params.toList ss = true)
  (hr : fn.params.toList.all (fun t => P.readableRec t && decide (t < P.types.size)) = true) {tb : TypeId} (hres : fn.resultTypes = #[tb]) (htb : P.underlying tb = some .bool) {sp : ChangeSpec} (hvars : sp.vars = [])
  (hsp : ∀ ds : List (DataW H), ds.length = fn.params.toList.length -> sp.fn H (ds ++ []) = { results := [.lit (.bool true)], args := ds })
  (law : ∀ x, FitT reachBytes ss x -> F x = some true)
  {W : World} {base : Nat} {args : Array Value} {ds gs : List (DataW H)} {before : List MemPlace}
  (hval : ∀ (j : Nat) t v, fn.params[j]? = some t -> args[j]? = some v -> Value.okWide P W .any base t v)
  (hW : DataW.Whole enc P fn.params.toList sp.vars false W args.toList ds gs before)
  (hsz : (DataW.weightsEach P (fn.params.toList ++ sp.plain.varTypes P) (ds ++ gs)).all (· <= reachBytes) = true) (ham : amb W) :
  Calls P f args W fun e W' => ∃ v, e = .returned v /\ sp.post enc P fn false true false false W args v W' := by
 obtain ⟨p, q, hA, hV, hpq, hnf, hnd⟩ := hW
 rw [hvars] at hV
 have hgs : gs = [] /\ q = [] := by
  cases gs with
  | nil => exact ⟨rfl, hV⟩
  | cons => exact hV.elim
 obtain ⟨rfl, rfl⟩ := hgs
 have hlen : ds.length = fn.params.toList.length := by
  have : ∀ {ts : List TypeId} {vs : List Value} {ds : List (DataW H)} {ps : List MemPlace}, DataW.TrodAll enc P W 0 (fun _ => true) true ts vs ds ps -> ds.length = ts.length := by
   intro ts
   induction ts with
   | nil => intro vs ds ps h; cases vs <;> cases ds <;> simp [DataW.TrodAll] at h ⊢
   | cons t ts ih =>
    intro vs ds ps h
    cases vs <;> cases ds <;> simp only [DataW.TrodAll] at h
    obtain ⟨_, _, _, h2, _⟩ := h
    simp [ih h2]
  exact this hA
 have hvt : sp.plain.varTypes P = [] := by
  simp [DataSpec.varTypes, ChangeSpec.plain, hvars]
 rw [hvt, List.append_nil, List.append_nil] at hsz
 obtain ⟨x, hx, fx⟩ := TF hE (base := base) 0 hps (fun j t v ht hv => hval j t v (by simpa using ht) (by simpa using hv)) hA (fun m hm => by simpa using List.all_eq_true.1 hsz m hm)
 have := hs W _ args.toList x _ (law x fx) ham hx (fun b o h => h)
 rw [Array.toArray_toList] at this
 refine this.mono fun e W' he => ?_
 obtain ⟨v, rfl, hbel, us, rfl, hres'⟩ := he
 have hu : us = [.bool true] := by
  have ow : ∀ {w' S fp u}, Ow w' S true (.bool true) u fp -> u = .bool true := by
   intro w' S fp u h
   cases h with
   | bool => rfl
   | ro _ _ _ h => cases h
  cases us with
  | nil => cases ex <;> simp only at hres' <;> obtain ⟨_, h, _⟩ := hres' <;> exact False.elim h
  | cons u us =>
   cases us with
   | cons => cases ex <;> simp only at hres' <;> obtain ⟨_, h, _⟩ := hres' <;> exact False.elim h
   | nil =>
    cases ex with
    | true =>
     obtain ⟨fps, h, _⟩ := hres'
     have h1 : Ow W' (fun _ _ => False) true (.bool true) u (fps 0) := h.1
     rw [ow h1]
    | false =>
     obtain ⟨S', h, _⟩ := hres'
     have h1 : Rep W' S' (.bool true) u := h.1
     cases h1
     rfl
 subst hu
 have hWW : DataW.Whole enc P fn.params.toList sp.vars false W args.toList ds [] before := ⟨p, [], hA, by rw [hvars]; rfl, hpq, hnf, hnd⟩
 have he := hsp ds hlen
 refine ⟨_, rfl, ds, [], before, [], p, [], hWW, ?_, ?_, ?_, hbel.frame _, fun h => by cases h⟩
 ·rw [he, hres]
  exact trodAll_mk1 ⟨1, by simp [DataW.trod, htb, pack, Value.cells]⟩
 ·rw [he]
  exact J4 hl hbel hr hA
 ·rw [he, hvars]
  rfl
end
end Go.Abs
