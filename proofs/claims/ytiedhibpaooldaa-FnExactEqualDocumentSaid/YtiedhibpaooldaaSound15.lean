/- Calls; every operation. -/
import Derived.Test.YtiedhibpaooldaaSound14
set_option linter.unusedSimpArgs false
set_option linter.unusedVariables false
namespace Go.Abs
open Go.RowKit

def pack : List Value → Value
  | [v] => v
  | vs => .tuple vs.toArray
/-- What a call hands back: data in rows of the call's own, none twice ('ex'), or data that is read by stable cells. -/
def ResOk (B : Nat) (w' : World) (S : Nat → Nat → Prop) (ex : Bool) (rs : List Sh) (y : Tup rs) (v : Value) : Prop :=
  ∃ us : List Value, v = pack us ∧ match ex with
    | true => ∃ fps : Nat → Nat → Prop, TupR (fun i d u => Ow w' (fun _ _ => False) true d u (fps i)) 0 rs y us ∧ (∀ i c, fps i c → B ≤ c ∧ c < w'.heap.size) ∧ ∀ i i' c, fps i c → fps i' c → i = i'
    | false => ∃ S' : Nat → Nat → Prop, TupR (fun _ d u => Rep w' S' d u) 0 rs y us ∧ ∀ b o, S' b o → (S b o ∨ B ≤ b) ∧ b < w'.heap.size
/-- The function does what its data function says. -/
def Sound (P : Program) (s : Fsp) : Prop := ∀ (w : World) (S : Nat → Nat → Prop) (args : List Value) (x : Tup s.ps) (y : Tup s.rs), s.fn x = some y →
  TupR (fun _ d u => Rep w S d u) 0 s.ps x args → (∀ b o, S b o → b < w.heap.size) →
  Calls P s.fid args.toArray w fun e w' => ∃ v, e = .returned v ∧ Below w.heap.size w w' ∧ ResOk w.heap.size w' S s.ex s.rs y v
def callable (P : Program) (f : FuncId) : Bool := match P.funcs[f]? with
  | some fn => !(fn.name == "runtime.NumGoroutine") && fn.body.isSome
  | none => false
def EnvOk (P : Program) (E : Env) : Prop := E.tt.ok P = true ∧ ∀ s, s ∈ E.fs → callable P s.fid = true ∧ Sound P s

theorem CellsR.get {R : Nat → D → Value → Prop} : ∀ {n : Nat} {ds : List D} {vs : List Value}, CellsR R n ds vs → ds.length = vs.length ∧ ∀ (i : Nat) (d : D) (v : Value), ds[i]? = some d → vs[i]? = some v → R (n + i) d v
  | n, [], [], _ => ⟨rfl, fun i d v h => by simp at h⟩
  | n, d :: ds, v :: vs, h => by
    obtain ⟨hl, hg⟩ := CellsR.get h.2
    refine ⟨by simp [hl], fun i d' v' hd hv => ?_⟩
    cases i with
    | zero => simp at hd hv; subst hd; subst hv; exact h.1
    | succ i => simp at hd hv; have := hg i d' v' hd hv; rwa [show n + 1 + i = n + (i + 1) by omega] at this
theorem CellsR.imp {R R' : Nat → D → Value → Prop} (h : ∀ i d v, R i d v → R' i d v) : ∀ {n : Nat} {ds : List D} {vs : List Value}, CellsR R n ds vs → CellsR R' n ds vs
  | n, [], [], _ => trivial
  | n, d :: ds, v :: vs, hh => ⟨h _ _ _ hh.1, CellsR.imp h hh.2⟩
theorem ShR.imp {R R' : Nat → D → Value → Prop} (h : ∀ i d v, R i d v → R' i d v) {n : Nat} {s : Sh} {x : s.t.den} {u : Value} (hh : ShR R n s x u) : ShR R' n s x u := by
  unfold ShR at *
  split at hh
  · obtain ⟨vs, e, hc⟩ := hh; exact ⟨vs, e, hc.imp h⟩
  · exact CellsR.imp h hh
theorem TupR.imp {R R' : Nat → D → Value → Prop} (h : ∀ i d v, R i d v → R' i d v) : ∀ {n : Nat} {ss : List Sh} {y : Tup ss} {us : List Value}, TupR R n ss y us → TupR R' n ss y us
  | n, [], y, [], _ => trivial
  | n, [s], y, [u], hh => ShR.imp h hh
  | n, s :: s' :: r, y, u :: us, hh => ⟨ShR.imp h hh.1, TupR.imp h hh.2⟩

section ops
variable {P : Program} {w0 : Bs} {G : Gh} {S : St} {a : Act} {w : World} {o : Oper} {K : Act → World → Prop} {Q : Exit → Act → World → Prop}

theorem resCs_rep {d : Nat} {ex : Bool} {R : Nat → D → Value → Prop} (hR : ∀ i x v, R i x v → CRep G w (resC d ex i x) v) : ∀ {n : Nat} {ds : List D} {vs : List Value}, CellsR R n ds vs → CsRep G w (resCs d ex n ds) vs
  | n, [], [], _ => trivial
  | n, x :: ds, v :: vs, h => ⟨hR _ _ _ h.1, resCs_rep hR h.2⟩
theorem resV_rep {d : Nat} {ex : Bool} {R : Nat → D → Value → Prop} (hR : ∀ i x v, R i x v → CRep G w (resC d ex i x) v) {n : Nat} {s : Sh} {y : s.t.den} {u : Value} (h : ShR R n s y u) : VRep G w (mkV' s.agg (resCs d ex n (s.t.cells y))) u := by
  unfold ShR at h
  split at h
  · rename_i hs
    obtain ⟨vs, rfl, hc⟩ := h
    rw [hs]
    exact ⟨vs, rfl, resCs_rep hR hc⟩
  · rename_i hs
    rw [hs]
    have hc := resCs_rep hR h
    match hcs : resCs d ex n (s.t.cells y), hc with
    | [c], hc => exact hc.1
theorem resVs_rep {d : Nat} {ex : Bool} {R : Nat → D → Value → Prop} (hR : ∀ i x v, R i x v → CRep G w (resC d ex i x) v) : ∀ {n : Nat} {ss : List Sh} {y : Tup ss} {us : List Value}, TupR R n ss y us → VsRep G w (resVs d ex n ss y) us
  | n, [], y, [], _ => trivial
  | n, [s], y, [u], h => ⟨resV_rep hR h, trivial⟩
  | n, s :: s' :: r, y, u :: us, h => ⟨resV_rep hR h.1, resVs_rep hR h.2⟩
theorem resAV_rep {vs : List V} {us : List Value} (h : VsRep G w vs us) : AVRep G w (resAV vs) (pack us) := by
  match vs, us, h with
  | [], [], _ => exact ⟨[], rfl, trivial⟩
  | [v], [u], h => exact avOfV_rep h.1
  | v :: v' :: r, u :: u' :: r', h => exact ⟨u :: u' :: r', rfl, h⟩

/-- the cells of a result, in order, with their values -/
def shVals (s : Sh) (u : Value) : List Value := match s.agg with
  | true => u.cells.toList
  | false => [u]
def tupVals : List Sh → List Value → List Value
  | s :: r, u :: us => shVals s u ++ tupVals r us
  | _, _ => []
theorem CellsR.app {R : Nat → D → Value → Prop} {n : Nat} {ds ds' : List D} {vs vs' : List Value} (h1 : CellsR R n ds vs) (h2 : CellsR R (n + ds.length) ds' vs') : CellsR R n (ds ++ ds') (vs ++ vs') := by
  induction ds generalizing n vs with
  | nil => cases vs with
    | nil => simpa using h2
    | cons => exact h1.elim
  | cons d ds ih => cases vs with
    | nil => exact h1.elim
    | cons v vs => exact ⟨h1.1, ih h1.2 (by rw [show n + 1 + ds.length = n + (d :: ds).length by simp; omega]; exact h2)⟩
theorem ShR.cells {R : Nat → D → Value → Prop} {n : Nat} {s : Sh} {x : s.t.den} {u : Value} (h : ShR R n s x u) : CellsR R n (s.t.cells x) (shVals s u) := by
  unfold ShR at h
  unfold shVals
  split at h
  · rename_i hs
    obtain ⟨vs, rfl, hc⟩ := h
    rw [hs]; exact hc
  · rename_i hs
    rw [hs]; exact h
theorem TupR.cells {R : Nat → D → Value → Prop} : ∀ {n : Nat} {ss : List Sh} {y : Tup ss} {us : List Value}, TupR R n ss y us → CellsR R n (tupCells ss y) (tupVals ss us)
  | n, [], y, [], _ => trivial
  | n, [s], y, [u], h => by
    have h1 : ShR R n s y u := h
    show CellsR R n (s.t.cells y) (shVals s u ++ [])
    rw [List.append_nil]; exact h1.cells
  | n, s :: s' :: r, y, u :: us, h => by
    refine CellsR.app h.1.cells ?_
    rw [Ty.cells_length]
    exact TupR.cells h.2
theorem CellsR.at {R : Nat → D → Value → Prop} {all : List Value} : ∀ {n : Nat} {ds : List D} {vs pre post : List Value}, CellsR R n ds vs → pre.length = n → all = pre ++ vs ++ post → CellsR (fun i d u => R i d u ∧ all[i]? = some u) n ds vs
  | n, [], [], _, _, _, _, _ => trivial
  | n, d :: ds, v :: vs, pre, post, h, hl, ha => by
    refine ⟨⟨h.1, ?_⟩, CellsR.at (pre := pre ++ [v]) (post := post) h.2 (by simp [hl]) (by rw [ha]; simp)⟩
    rw [ha, List.append_assoc, List.getElem?_append_right (by omega), hl]
    simp
theorem CellsR.length {R : Nat → D → Value → Prop} {n : Nat} {ds : List D} {vs : List Value} (h : CellsR R n ds vs) : ds.length = vs.length := h.get.1
theorem ShR.at {R : Nat → D → Value → Prop} {all : List Value} {n : Nat} {s : Sh} {x : s.t.den} {u : Value} {pre post : List Value} (h : ShR R n s x u) (hl : pre.length = n) (ha : all = pre ++ shVals s u ++ post) : ShR (fun i d u => R i d u ∧ all[i]? = some u) n s x u := by
  unfold ShR at *
  unfold shVals at ha
  cases hs : s.agg with
  | true =>
    rw [hs] at h ha
    obtain ⟨vs, rfl, hc⟩ := h
    exact ⟨vs, rfl, hc.at hl ha⟩
  | false =>
    rw [hs] at h ha
    exact CellsR.at h hl ha
theorem TupR.at {R : Nat → D → Value → Prop} {all : List Value} : ∀ {n : Nat} {ss : List Sh} {y : Tup ss} {us pre post : List Value}, TupR R n ss y us → pre.length = n → all = pre ++ tupVals ss us ++ post → TupR (fun i d u => R i d u ∧ all[i]? = some u) n ss y us
  | n, [], y, [], _, _, _, _, _ => trivial
  | n, [s], y, [u], pre, post, h, hl, ha => ShR.at (post := post) h hl (by rw [ha]; simp [tupVals])
  | n, s :: s' :: r, y, u :: us, pre, post, h, hl, ha => by
    have hsl := h.1.cells.length
    rw [Ty.cells_length] at hsl
    refine ⟨ShR.at (post := tupVals (s' :: r) us ++ post) h.1 hl (by rw [ha]; simp [tupVals]), TupR.at (pre := pre ++ shVals s u) (post := post) h.2 (by simp [hl, hsl]) (by rw [ha]; simp [tupVals])⟩

theorem osOf_get (ds : List D) (j : Nat) : oget (osOf ds) j = match ds[j]? with
    | some (.list t xs) => .own t xs true true
    | _ => .dead := by
  simp only [oget, osOf, List.getD_eq_getElem?_getD, List.getElem?_map]
  cases ds[j]? with
  | none => rfl
  | some x => cases x <;> rfl

/-- A list in rows of its own under a key. -/
theorem ow_owT {w' : World} {S' : Nat → Nat → Prop} {t : Ty} {xs : List t.den} {v : Value} {fp fp' : Nat → Prop} (h : Ow w' (fun _ _ => False) true (.list t xs) v fp) (hf : ∀ c, fp c → fp' c) (hS : ∀ b o, S' b o → ¬ fp b) : OwT w' S' true true t xs v fp' := by
  generalize hdd : D.list t xs = dd at h
  cases h with
  | int => cases hdd
  | bool => cases hdd
  | str => cases hdd
  | nil t' => cases hdd; exact .inl ⟨rfl, rfl⟩
  | ro _ _ _ hd => cases hd
  | list t' xs' b cap arr E vs fps _ hb hcap hmax hsz hfb hc hr hfp hdis =>
    cases hdd
    exact .inr ⟨b, cap, arr, E, vs, fps, rfl, hb, hcap, hmax, hsz, hf _ hfb, hc, fun i x j d hx hd => (hr i x j d hx hd).move (fun _ _ h => h.elim) fun _ _ => rfl, fun i j c hcf => ⟨hf _ (hfp i j c hcf).1, (hfp i j c hcf).2⟩, hdis, fun o hs => absurd hfb (hS b o hs)⟩

theorem Inv.toNoMuts : ∀ (keys : List (Nat × Nat)) {G : Gh} {S : St}, Inv w0 G S a w → nodupB keys = true →
    ∃ G', Inv w0 G' (S.puts (keys.map fun q => .nomut q.1 q.2)) a w ∧ More G G' (AK G S keys)
  | [], G, S, h, _ => ⟨G, h, ⟨rfl, rfl, rfl, rfl, rfl, fun b o => ⟨.inl, fun hh => hh.elim id fun ⟨_, _, _, _, _, _, hm, _⟩ => by cases hm⟩⟩⟩
  | (k, j) :: r, G, S, h, hn => by
    obtain ⟨hq, hn'⟩ := nodupB_cons hn
    obtain ⟨G1, h1, m1⟩ := h.toNoMut k j
    obtain ⟨G2, h2, m2⟩ := Inv.toNoMuts r h1 hn'
    have hput : ∀ k' j', (k', j') ∈ r → oget ((S.put (.nomut k j)).getO k') j' = oget (S.getO k') j' := fun k' j' hm => by
      show oget ((S.setO k ((S.getO k).set j (oget (S.getO k) j).noMut)).getO k') j' = _
      rw [getO_setO]
      split
      · rename_i hk
        rw [oget_set]
        split
        · rename_i hj
          have : (k, j) = (k', j') := by rw [hk.1, hj.1]
          exact absurd (this ▸ hm) hq
        · rw [hk.1]
      · rfl
    refine ⟨G2, h2, ⟨m2.ow.trans m1.ow, m2.ov.trans m1.ov, m2.bk.trans m1.bk, m2.lk.trans m1.lk, m2.lb.trans m1.lb, fun b o => ?_⟩⟩
    rw [m2.s, m1.s]
    constructor
    · rintro ((hs | ⟨k', j', t, xs, deep, m, hm, hx⟩) | ⟨k', j', t, xs, deep, m, hm, hx, how, hov⟩)
      · exact .inl hs
      · simp only [List.mem_singleton] at hm
        exact .inr ⟨k', j', t, xs, deep, m, by rw [hm]; exact List.mem_cons_self, hx⟩
      · rw [hput k' j' hm] at hx
        exact .inr ⟨k', j', t, xs, deep, m, List.mem_cons_of_mem _ hm, hx, by rw [← m1.ow]; exact how, by rw [← m1.ov]; exact hov⟩
    · rintro (hs | ⟨k', j', t, xs, deep, m, hm, hx, how, hov⟩)
      · exact .inl (.inl hs)
      · rcases List.mem_cons.1 hm with hm | hm
        · exact .inl (.inr ⟨k', j', t, xs, deep, m, by simp [hm], hx, how, hov⟩)
        · exact .inr ⟨k', j', t, xs, deep, m, hm, by rw [hput k' j' hm]; exact hx, by rw [m1.ow]; exact how, by rw [m1.ov]; exact hov⟩

theorem run_callee {c : Call} {f : FuncId} (ho : o.op = .call c) (hc : c.callee = .value (.func f)) (hf : callable P f = true) :
    (execOp a.eval o).run P w = .ok (.enter f (c.args.map a.eval)) w := by
  unfold callable at hf
  split at hf
  · rename_i fn hfn
    simp only [Bool.and_eq_true, Bool.not_eq_true'] at hf
    have hn : ¬ fn.name = "runtime.NumGoroutine" := by simpa using hf.1
    have hb : ¬ fn.body = none := by
      have := hf.2
      cases hbb : fn.body <;> simp_all
    unfold execOp
    simp [ho, resolve, hc, Act.eval, Deferred.ofValue, invoke, callFunc, hfn, hn, hb]
  · cases hf

theorem mem_cells {vs : List V} {k j : Nat} {x : V} (hx : x ∈ vs) (h : C.own k j ∈ x.cells) : (k, j) ∈ ownKeys (vs.flatMap V.cells) :=
  ownKeys_mem (List.mem_flatMap.2 ⟨x, hx, h⟩)

theorem op_call (h : Inv w0 G S a w) {c : Call} {f : FuncId} (ho : o.op = .call c) (hc : c.callee = .value (.func f)) {E : Env} (hE : EnvOk P E) {ws : List W} (hv : (eff E o).val S = some ws)
    (hK : ∀ a' w' G', Inv w0 G' (S.puts ws) a' w' → K a' w') : o.wp P a w K Q := by
  unfold eff at hv
  rw [ho] at hv
  simp only [hc] at hv
  split at hv
  · cases hv
  rename_i s hs
  have hfid : s.fid = f := by have := List.find?_some hs; simpa using this
  obtain ⟨hcall, hsound⟩ := hE.2 s (List.mem_of_find?_eq_some hs)
  simp only [Rd.val_bind, Option.bind_eq_some_iff] at hv
  obtain ⟨vs, h1, x, h2, hv⟩ := hv
  simp only [Rd.val, Option.bind_eq_some_iff] at hv
  obtain ⟨y, h3, hv⟩ := hv
  split at hv
  case isFalse => cases hv
  rename_i hex
  have hvs := evalOs_rep h h1
  have hargs : (c.args.map a.eval) = (c.args.toList.map a.eval).toArray := by
    cases c.args; simp
  have upon : ∀ {R : Value → World → Prop}, Calls P f (c.args.map a.eval) w (fun e w' => ∃ v, e = .returned v ∧ R v w') → (∀ v w', R v w' → K (a.put o.dst v) w') → o.wp P a w K Q := by
    intro R hC hR
    unfold Oper.wp
    rw [run_callee ho hc (hfid ▸ hcall)]
    refine Calls.mono hC fun e w' he => ?_
    obtain ⟨v, rfl, hr⟩ := he
    exact hR v w' hr
  have hcalls : ∀ (S' : Nat → Nat → Prop), (∀ b oo, (G.S b oo ∨ AK G S (ownKeys (vs.flatMap V.cells)) b oo) → S' b oo) → (∀ b oo, S' b oo → b < w.heap.size) →
      Calls P f (c.args.map a.eval) w (fun e w' => ∃ v, e = .returned v ∧ (Below w.heap.size w w' ∧ ResOk w.heap.size w' S' s.ex s.rs y v)) := by
    intro S' hS' hlt
    have := vTs_rep h (ownKeys (vs.flatMap V.cells)) 0 h2 hvs fun k j z hz hm => mem_cells hz hm
    rw [← hfid, hargs]
    exact hsound w S' _ x y h3 (this.imp fun i d v hr => hr.move fun b oo hs => ⟨hS' b oo hs, rfl⟩) hlt
  have hAlt : ∀ b oo, AK G S (ownKeys (vs.flatMap V.cells)) b oo → b < w.heap.size := by
    rintro b oo ⟨k, j, t, xs, deep, m, _, _, how, _⟩
    exact (h.olt _ _ how).2
  -- scalars, in any world
  have scalar : ∀ {w' : World} {G' : Gh} {d : Nat} {ex : Bool} {i : Nat} {dd : D} {u : Value}, tyOfD dd = none → (∃ S' fp, Ow w' S' true dd u fp) → CRep G' w' (resC d ex i dd) u := by
    rintro w' G' d ex i dd u hd ⟨S', fp, hw⟩
    cases hw with
    | int k n => exact Rep.int _ _
    | bool b => exact Rep.bool _
    | str v => exact Rep.str _
    | nil => cases hd
    | ro _ _ _ hdd => cases hdd
    | list => cases hd
  cases hexs : s.ex with
  | true =>
    refine upon (hcalls (fun b oo => G.S b oo ∨ AK G S (ownKeys (vs.flatMap V.cells)) b oo) (fun _ _ hh => hh) (fun b oo hh => hh.elim (fun hs => (h.sok b oo hs).1) (hAlt b oo))) ?_
    rintro v w' ⟨hbel, us, rfl, hres⟩
    rw [hexs] at hres
    obtain ⟨fps, hT, hfp, hfd⟩ := hres
    have h5 := h.grow hbel
    simp only [hexs, if_true, Bool.true_and] at hv
    cases hdst : o.dst with
    | none =>
      rw [hdst] at hv
      simp only [Rd.val, Option.some.injEq] at hv
      subst hv
      exact hK _ _ _ h5
    | some d =>
      rw [hdst] at hv
      simp only at hv
      by_cases hany : (tupCells s.rs y).any isList = true
      · rw [if_pos hany] at hv
        simp only [Rd.val_bind, Option.bind_eq_some_iff, Rd.val, Option.some.injEq] at hv
        obtain ⟨ws', h6, rfl⟩ := hv
        obtain ⟨hdO, rfl⟩ := fresh_val h6
        by_cases hdl : d < S.tmps.length
        case neg =>
          refine hK _ _ G ?_
          show Inv w0 G ((S.setO d _).setT d _) _ _
          rw [put_out h.tsz hdl, setO_out (by rw [h.osz]; exact hdl), setT_out hdl]
          exact h5
        generalize hvals0 : tupVals s.rs us = vals at *
        have hvals : CellsR (fun i d u => Ow w' (fun _ _ => False) true d u (fps i)) 0 (tupCells s.rs y) vals := hvals0 ▸ hT.cells
        obtain ⟨hvl, hvg⟩ := hvals.get
        classical
        have hne : osOf (tupCells s.rs y) ≠ [] := by
          intro e
          have : tupCells s.rs y = [] := by
            simp only [osOf, List.map_eq_nil_iff] at e; exact e
          rw [this] at hany; cases hany
        obtain ⟨G2, h7, m7, l7, o7⟩ := h5.newOwns d (osOf (tupCells s.rs y)) (fun i => vals.getD i undef) (fun c => if hh : ∃ i, fps i c then some hh.choose else none) hdO hdl hne
          (fun c i hc => by
            split at hc
            · rename_i hh
              obtain ⟨f1, f2⟩ := hfp _ _ hh.choose_spec
              refine ⟨Nat.le_trans h.below.size f1, f2, fun i hb => ?_, fun k' j' _ _ _ _ hb => ?_⟩
              · exact absurd (h.olt _ _ hb).2 (by omega)
              · exact absurd (h.olt _ _ hb).2 (by omega)
            · cases hc)
          (fun j => by
            rw [osOf_get]
            cases hj : (tupCells s.rs y)[j]? with
            | none => trivial
            | some dd =>
              cases dd with
              | int => trivial
              | bool => trivial
              | str => trivial
              | list t xs =>
                have hjl : j < vals.length := by rw [← hvl]; exact (List.getElem?_eq_some_iff.1 hj).1
                have := hvg j _ vals[j] hj (by simp [hjl])
                rw [Nat.zero_add] at this
                show OwT w' G.S true true t xs (vals.getD j undef) _
                have e : vals.getD j undef = vals[j] := by simp [hjl]
                rw [e]
                refine ow_owT this (fun c hc => ?_) fun b oo hs hb => ?_
                · have hh : ∃ i, fps i c := ⟨j, hc⟩
                  rw [dif_pos hh]
                  exact congrArg some (hfd _ _ _ hh.choose_spec hc)
                · have := (h.sok b oo hs).1
                  have := (hfp _ _ hb).1
                  omega)
        have hTa := hT.at (all := vals) (pre := []) (post := []) rfl (by rw [← hvals0]; simp)
        have hTa' : TupR (fun i d u => (Ow w' (fun _ _ => False) true d u (fps i) ∧ vals[i]? = some u)) 0 s.rs y us := hTa
        refine hK _ _ _ (h7.setT d (av := resAV (resVs d true 0 s.rs y)) (resAV_rep (resVs_rep (R := fun i d u => (Ow w' (fun _ _ => False) true d u (fps i) ∧ vals[i]? = some u)) ?_ hTa')))
        rintro i dd u ⟨hw, hu⟩
        cases hdl2 : tyOfD dd with
        | none => exact scalar hdl2 ⟨_, _, hw⟩
        | some t =>
          cases dd with
          | int => cases hdl2
          | bool => cases hdl2
          | str => cases hdl2
          | list t' xs =>
            refine ⟨l7, ?_, hw.one⟩
            rw [o7]
            simp [hu]
      · rw [if_neg hany] at hv
        simp only [List.nil_append, Rd.val, Option.some.injEq] at hv
        subst hv
        refine hK _ _ _ (h5.setT d (av := resAV (resVs d true 0 s.rs y)) (resAV_rep (resVs_rep (R := fun i dd u => Ow w' (fun _ _ => False) true dd u (fps i) ∧ tyOfD dd = none) (fun i dd u hw => scalar hw.2 ⟨_, _, hw.1⟩) ?_)))
        have hno : ∀ dd, dd ∈ tupCells s.rs y → tyOfD dd = none := by
          intro dd hm
          cases dd with
          | list t xs => exact absurd (List.any_eq_true.2 ⟨_, hm, rfl⟩) hany
          | _ => rfl
        -- every cell is one of the result's
        have key : ∀ {n : Nat} {ds : List D} {vs : List Value}, CellsR (fun i d u => Ow w' (fun _ _ => False) true d u (fps i)) n ds vs → (∀ dd, dd ∈ ds → tyOfD dd = none) → CellsR (fun i d u => Ow w' (fun _ _ => False) true d u (fps i) ∧ tyOfD d = none) n ds vs := by
          intro n ds
          induction ds generalizing n with
          | nil => intro vs h1 _; cases vs with
            | nil => trivial
            | cons => exact h1.elim
          | cons d ds ih => intro vs h1 h2; cases vs with
            | nil => exact h1.elim
            | cons v vs => exact ⟨⟨h1.1, h2 d List.mem_cons_self⟩, ih h1.2 fun dd hm => h2 dd (List.mem_cons_of_mem _ hm)⟩
        have keyS : ∀ {n : Nat} {s' : Sh} {x : s'.t.den} {u : Value}, ShR (fun i d u => Ow w' (fun _ _ => False) true d u (fps i)) n s' x u → (∀ dd, dd ∈ s'.t.cells x → tyOfD dd = none) → ShR (fun i d u => Ow w' (fun _ _ => False) true d u (fps i) ∧ tyOfD d = none) n s' x u := by
          intro n s' x u hh hm
          unfold ShR at *
          split at hh
          · obtain ⟨vs, e, hc⟩ := hh; exact ⟨vs, e, key hc hm⟩
          · exact key hh hm
        have keyT : ∀ {ss : List Sh} {n : Nat} {y' : Tup ss} {us' : List Value}, TupR (fun i d u => Ow w' (fun _ _ => False) true d u (fps i)) n ss y' us' → (∀ dd, dd ∈ tupCells ss y' → tyOfD dd = none) → TupR (fun i d u => Ow w' (fun _ _ => False) true d u (fps i) ∧ tyOfD d = none) n ss y' us' := by
          intro ss
          induction ss with
          | nil => intro n y' us' hh _; cases us' with
            | nil => trivial
            | cons => exact hh.elim
          | cons s0 r ih =>
            intro n y' us' hh hm
            cases r with
            | nil => cases us' with
              | nil => exact hh.elim
              | cons u us' => cases us' with
                | nil => exact keyS hh hm
                | cons => exact hh.elim
            | cons s1 r => cases us' with
              | nil => exact hh.elim
              | cons u us' => exact ⟨keyS hh.1 fun dd hd => hm dd (List.mem_append_left _ hd), ih hh.2 fun dd hd => hm dd (List.mem_append_right _ hd)⟩
        exact keyT hT hno
  | false =>
    have hnk : nodupB (ownKeys (vs.flatMap V.cells)) = true := by simpa [hexs] using hex
    obtain ⟨G1, h5, m5⟩ := Inv.toNoMuts (ownKeys (vs.flatMap V.cells)) h hnk
    refine upon (hcalls G1.S (fun b oo hh => (m5.s b oo).2 hh) (fun b oo hh => (h5.sok b oo hh).1)) ?_
    rintro v w' ⟨hbel, us, rfl, hres⟩
    rw [hexs] at hres
    obtain ⟨S', hT, hS'⟩ := hres
    have h6 := h5.grow hbel
    obtain ⟨h7, m7⟩ := h6.addS (fun b oo => S' b oo ∧ w.heap.size ≤ b) (fun b oo hh => by
      have hno : ∀ x, G1.ow b ≠ some x := fun x hx => by
        have := (h5.olt _ _ hx).2
        omega
      exact ⟨(hS' b oo hh.1).2, fun i => hno _, fun k j t xs deep m _ len cap _ how => absurd how (hno _)⟩) (fun b oo hh => Nat.le_trans h.below.size hh.2)
    simp only [hexs, Bool.false_eq_true, if_false, Bool.false_and] at hv
    cases hdst : o.dst with
    | none =>
      rw [hdst] at hv
      simp only [Rd.val, Option.some.injEq] at hv
      subst hv
      exact hK _ _ _ h7
    | some d =>
      rw [hdst] at hv
      simp only [Rd.val, Option.some.injEq] at hv
      subst hv
      have h8 := h7.setT d (av := resAV (resVs d false 0 s.rs y)) (resAV_rep (resVs_rep (R := fun _ dd u => Rep w' S' dd u) (fun i dd u hr => ?_) hT))
      · refine hK _ _ _ (?_ : Inv w0 { G1 with S := fun b o => G1.S b o ∨ (S' b o ∧ w.heap.size ≤ b) } _ _ _)
        rw [puts_append]
        exact h8
      have hr' : Rep w' (fun b oo => G1.S b oo ∨ (S' b oo ∧ w.heap.size ≤ b)) dd u := hr.move fun b oo hs => ⟨(hS' b oo hs).1.imp id fun hb => ⟨hs, hb⟩, rfl⟩
      cases dd with
      | list t xs => exact hr'
      | int => exact hr'
      | bool => exact hr'
      | str => exact hr'

/-- Every operation. -/
theorem eff_sound (h : Inv w0 G S a w) {E : Env} (hE : EnvOk P E) {ws : List W} (hv : (eff E o).val S = some ws)
    (hK : ∀ a' w' G', Inv w0 G' (S.puts ws) a' w' → K a' w') : o.wp P a w K Q := by
  have hT := hE.1
  cases ho : o.op with
  | move x => exact op_move h (.inl ho) hv hK
  | assign x => exact op_move h (.inr ho) hv hK
  | pick c x y => exact op_pick h ho hv hK
  | alloc e => exact op_alloc h ho hT hv hK
  | box e x => exact op_boxv h ho hv hK
  | build t ps => exact op_build h ho hT hv hK
  | buildSlice t n ps => exact op_buildSlice h ho hT hv hK
  | load t p => exact op_load h ho hT hv hK
  | store t p x => exact op_store h ho hT hv hK
  | nilCheck x => exact op_nilCheck h ho hv hK
  | convert t0 t x => exact op_convert h ho hT hv hK
  | binOp bo t x y t' => exact op_binOp h ho hT hv hK
  | unOp uo t x => exact op_unOp h ho hv hK
  | makeSlice t l c => exact op_makeSlice h ho hT hv hK
  | slice t x lo hi mx => exact op_slice h ho hT hv hK
  | fieldAddr s p f => exact op_fieldAddr h ho hT hv hK
  | field t x f => exact op_field h ho hT hv hK
  | indexAddr t x i => exact op_indexAddr h ho hT hv hK
  | index t x i => exact op_index h ho hT hv hK
  | extract x i => exact op_extract h ho hv hK
  | call c =>
    cases hc : c.callee with
    | builtin b =>
      cases b <;> first
        | exact op_len h ho hc hT hv hK
        | exact op_append h ho hc hT hv hK
        | exact op_maxmin h ho (.inl hc) hv hK
        | exact op_maxmin h ho (.inr hc) hv hK
        | (unfold eff at hv; rw [ho] at hv; simp only [hc] at hv; cases hv)
    | value x =>
      cases x with
      | func f => exact op_call h ho hc hE hv hK
      | tmp t => unfold eff at hv; rw [ho] at hv; simp only [hc] at hv; cases hv
      | const v => unfold eff at hv; rw [ho] at hv; simp only [hc] at hv; cases hv
      | global g => unfold eff at hv; rw [ho] at hv; simp only [hc] at hv; cases hv
    | invoke r m => unfold eff at hv; rw [ho] at hv; simp only [hc] at hv; cases hv
  | _ => unfold eff at hv; rw [ho] at hv; cases hv
end ops
end Go.Abs
