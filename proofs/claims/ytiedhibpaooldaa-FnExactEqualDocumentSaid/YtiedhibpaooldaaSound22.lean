/- Functions: what the evaluator computes is what a call does. -/
import Derived.Test.YtiedhibpaooldaaSound21
namespace Go.Abs
open Go.RowKit

theorem Ow.anyS {w : World} {S S' : Nat → Nat → Prop} {dp : Bool} {d : D} {v : Value} {fp : Nat → Prop} (h : Ow w S dp d v fp) (hd : dp = true) : Ow w S' dp d v fp := by
  induction h with
  | int k n fp => exact .int k n fp
  | bool b fp => exact .bool b fp
  | str v fp => exact .str v fp
  | nil t fp => exact .nil t fp
  | ro d v fp hd' h => rw [hd'] at hd; cases hd
  | list t xs b cap arr E vs fps fp hb hcap hmax hsz hfb hc hr hf hdis ih => exact .list t xs b cap arr E vs fps fp hb hcap hmax hsz hfb hc ih hf hdis

section functions
variable {P : Program}

theorem init_inv {w : World} {S0 : Nat → Nat → Prop} (hS : ∀ b o, S0 b o → b < w.heap.size) {n : Nat} {vs : List V} {us : List Value} (hv : ∀ G : Gh, G.S = S0 → VsRep G w vs us) :
    ∃ G, Inv ⟨w, S0⟩ G (initSt n vs) { tmps := us.toArray ++ Array.replicate (n - us.toArray.size) undef, defers := [] } w := by
  let G : Gh := { bk := fun _ => 0, ov := fun _ _ => undef, ow := fun _ => none, S := S0, lk := fun _ => False, lb := fun _ => False }
  obtain ⟨hl, hg⟩ := (hv G rfl).get
  have hgB : ∀ i, (initSt n vs).getB i = none := by
    intro i
    show (List.replicate _ (none : Option (List C))).getD i none = none
    rw [List.getD_eq_getElem?_getD, List.getElem?_replicate]
    split <;> rfl
  have hgO : ∀ i, (initSt n vs).getO i = [] := by
    intro i
    show (List.replicate _ ([] : List O)).getD i [] = []
    rw [List.getD_eq_getElem?_getD, List.getElem?_replicate]
    split <;> rfl
  refine ⟨G, ⟨Below.refl _ _, rfl, ?_, ?_, ?_, ?_, (fun b x hx => (by cases hx)), (fun b o hs => ⟨hS b o hs, fun i hi => (by cases hi)⟩), ?_, ?_, (fun k hk => hk.elim), (fun i hi => hi.elim), (fun b o hs _ => hs)⟩⟩
  · simp [initSt, hl]
  · simp [initSt]
  · simp [initSt]
  · intro i v hv'
    simp only [Array.getElem?_append, List.size_toArray, List.getElem?_toArray] at hv'
    show AVRep G w ((vs.map AV.v ++ List.replicate _ AV.undef).getD i .undef) v
    rw [List.getD_eq_getElem?_getD, List.getElem?_append]
    by_cases hi : i < us.length
    · rw [if_pos hi] at hv'
      have hi' : i < vs.length := by omega
      rw [if_pos (by simpa using hi'), List.getElem?_map, List.getElem?_eq_getElem hi']
      exact hg i vs[i] v (by simp [hi']) hv'
    · rw [if_neg (by simp; omega), List.getElem?_replicate]
      split <;> trivial
  · intro i cs hcs
    rw [hgB] at hcs; cases hcs
  · intro k j
    rw [hgO]; trivial

def resSem (tmps : Array Value) : ResultVar → Sem Value
  | .tmp t => pure (tmps.getD t undef)
  | .cell p t => do loadVar t (← asAddr (tmps.getD p undef))
theorem resV_run {w0 : Bs} {E : Env} (hT : E.tt.ok P = true) {G : Gh} {S : St} {a : Act} {w : World} (h : Inv w0 G S a w) {rv : ResultVar} {x : V} (hx : (resV E rv).val S = some x) :
    ∃ v, (resSem a.tmps rv).run P w = .ok v w ∧ VRep G w x v := by
  cases rv with
  | tmp t =>
    simp only [resV, Rd.val] at hx
    exact ⟨_, rfl, avV_rep hx (h.getT t)⟩
  | cell p t =>
    simp only [resV] at hx
    split at hx
    · cases hx
    · rename_i agg n hs
      obtain ⟨d, i, hu, hi, hsz, hd⟩ := TT.shape_ok hT hs
      have hr := h.getT p
      change Rd.val (match S.getT p with
      | .v (.one (.ptr b off)) => .gB b fun
        | some cs => .opt (mkV agg (seg cs off n)) fun v => if (seg cs off n).length = n then .ret v else .fail
        | none => .fail
      | _ => .fail) S = some x at hx
      split at hx
      · rename_i b off he
        rw [he] at hr
        have hpv : a.tmps.getD p undef = .pointer (some ⟨G.bk b, off, none⟩) := hr.2
        change Rd.val (match S.getB b with
          | some cs => .opt (mkV agg (seg cs off n)) fun v => if (seg cs off n).length = n then .ret v else .fail
          | none => .fail) S = some x at hx
        split at hx
        · rename_i cs hcs
          simp only [Rd.val, Option.bind_eq_some_iff] at hx
          obtain ⟨y, hy, hx⟩ := hx
          split at hx
          · rename_i hn
            simp only [Rd.val, Option.some.injEq] at hx
            subst hx
            obtain ⟨_, vs, e, hh, hc⟩ := h.box b cs hcs
            obtain ⟨m1, m2⟩ := mkV_rep hy (hc.seg off n)
            have hlen := (hc.seg off n).length
            have hcell : ∀ (j : Nat) (v : Value), (seg vs off n)[j]? = some v → w.cell? ⟨G.bk b, off + j, none⟩ = some v := fun j v hv => by
              rw [cell_of_row w _ _ _ _ _ hh]
              simp only [Abs.seg, List.getElem?_take, List.getElem?_drop] at hv
              split at hv
              · simpa using hv
              · cases hv
            cases agg with
            | true =>
              have := run_loadVar_agg (P := P) (w := w) t (G.bk b) off d i hu hi hd (seg vs off n) (by omega) hcell
              exact ⟨_, by simp only [resSem, hpv, asAddr, Sem.run_bind, Sem.run_pure, Result.andThen_ok, this], m1 rfl⟩
            | false =>
              obtain ⟨v, hv1, hv2⟩ := m2 rfl
              have := run_loadVar_one (P := P) (w := w) t (G.bk b) off d hu hd v (by have := hcell 0 v (by rw [hv1]; rfl); simpa using this)
              exact ⟨_, by simp only [resSem, hpv, asAddr, Sem.run_bind, Sem.run_pure, Result.andThen_ok, this], hv2⟩
          · cases hx
        · cases hx
      · cases hx

theorem results_run {w0 : Bs} {E : Env} (hT : E.tt.ok P = true) {G : Gh} {S : St} {a : Act} {w : World} (h : Inv w0 G S a w) : ∀ {rvs : List ResultVar} {xs : List V}, (resVs' E rvs).val S = some xs →
    ∃ us, (rvs.mapM (resSem a.tmps)).run P w = .ok us w ∧ VsRep G w xs us
  | [], xs, hx => by
    simp only [resVs', Rd.val, Option.some.injEq] at hx
    subst hx
    exact ⟨[], rfl, trivial⟩
  | rv :: r, xs, hx => by
    simp only [resVs', Rd.val_bind, Option.bind_eq_some_iff, Rd.val, Option.some.injEq] at hx
    obtain ⟨x, h1, xs', h2, rfl⟩ := hx
    obtain ⟨v, h3, h4⟩ := resV_run hT h h1
    obtain ⟨us, h5, h6⟩ := results_run hT h h2
    refine ⟨v :: us, ?_, h4, h6⟩
    simp only [List.mapM_cons, Sem.run_bind, h3, Result.andThen_ok, h5, Sem.run_pure]

/-- A result that is the call's own to the bottom. -/
theorem cells_own {w0 : Bs} {G : Gh} {S : St} {a : Act} {w : World} (h : Inv w0 G S a w) {all : List C} (hall : (csDeep all).val S = some true) : ∀ {tys : List (Option Ty)} {cs : List C} {ds : List D} {vs : List Value} {n : Nat} {pre post : List C}, (cDs tys cs).val S = some ds →
    tys.length = cs.length → CsRep G w cs vs → all = pre ++ cs ++ post → pre.length = n → CellsR (fun i d v => Ow w (fun _ _ => False) true d v (fun b => ∃ c, all[i]? = some c ∧ rowsOf G S c b)) n ds vs
  | [], [], ds, [], n, pre, post, hd, _, _, _, _ => by
    simp only [cDs, Rd.val, Option.some.injEq] at hd; subst hd; trivial
  | ty :: tys, c :: cs, ds, v :: vs, n, pre, post, hd, hl, hc, ha, hp => by
    simp only [cDs, Rd.val_bind, Option.bind_eq_some_iff, Rd.val, Option.some.injEq] at hd
    obtain ⟨d, h1, ds', h2, rfl⟩ := hd
    have hn : all[n]? = some c := by
      rw [ha, List.append_assoc, List.getElem?_append_right (by omega), hp]; simp
    obtain ⟨b, hb1, hb2⟩ := csDeep_get hall n c hn
    have hw := cell_in h h1 hc.1 hb1 hb2 (S' := fun b o => G.S b o ∨ AK G S (ownKeys all) b o) (keys := ownKeys all) (fun _ _ hh => hh) (fun k j e => ownKeys_mem (e ▸ List.mem_of_getElem? hn))
    exact ⟨(hw.anyS rfl).sub (fun b hb => ⟨c, hn, hb⟩) id, cells_own h hall (pre := pre ++ [c]) (post := post) h2 (by simpa using hl) hc.2 (by rw [ha]; simp) (by simp [hp])⟩
theorem vT_own {w0 : Bs} {G : Gh} {S : St} {a : Act} {w : World} (h : Inv w0 G S a w) {all : List C} (hall : (csDeep all).val S = some true) {s : Sh} {x : V} {y : s.t.den} {v : Value} {n : Nat} {pre post : List C} (hy : (vT s x).val S = some y) (hx : VRep G w x v)
    (ha : all = pre ++ x.cells ++ post) (hp : pre.length = n) : ShR (fun i d v => Ow w (fun _ _ => False) true d v (fun b => ∃ c, all[i]? = some c ∧ rowsOf G S c b)) n s y v ∧ x.cells.length = s.t.size := by
  simp only [vT] at hy
  split at hy
  · rename_i hg
    simp only [Rd.val_bind, Option.bind_eq_some_iff, Rd.val] at hy
    obtain ⟨ds, h1, z, h2, h3⟩ := hy
    simp only [Option.some.injEq] at h3
    subst h3
    obtain ⟨vs, hc, ha1, hb1⟩ := hx.cells
    have := cells_own h hall h1 (by rw [tys_length]; exact hg.2.symm) hc ha hp
    rw [← Ty.ofCells_some h2] at this
    refine ⟨?_, hg.2⟩
    unfold ShR
    cases hs : s.agg with
    | true => exact ⟨vs, ha1 (by rw [hg.1, hs]), this⟩
    | false => rw [hb1 (by rw [hg.1, hs])] at this; exact this
  · cases hy
theorem vTs_own {w0 : Bs} {G : Gh} {S : St} {a : Act} {w : World} (h : Inv w0 G S a w) {all : List C} (hall : (csDeep all).val S = some true) : ∀ {ss : List Sh} {xs : List V} {y : Tup ss} {us : List Value} {n : Nat} {pre post : List C}, (vTs ss xs).val S = some y → VsRep G w xs us →
    all = pre ++ xs.flatMap V.cells ++ post → pre.length = n → TupR (fun i d v => Ow w (fun _ _ => False) true d v (fun b => ∃ c, all[i]? = some c ∧ rowsOf G S c b)) n ss y us
  | [], [], y, [], n, pre, post, _, _, _, _ => trivial
  | [s], [x], y, [u], n, pre, post, hy, hx, ha, hp => (vT_own h hall (post := post) hy hx.1 (by rw [ha]; simp) hp).1
  | s :: s' :: r, x :: xs, y, u :: us, n, pre, post, hy, hx, ha, hp => by
    simp only [vTs, Rd.val_bind, Option.bind_eq_some_iff, Rd.val, Option.some.injEq] at hy
    obtain ⟨p, h1, q, h2, rfl⟩ := hy
    obtain ⟨h3, h4⟩ := vT_own h hall (post := xs.flatMap V.cells ++ post) h1 hx.1 (by rw [ha]; simp) hp
    exact ⟨h3, vTs_own h hall (pre := pre ++ x.cells) (post := post) h2 hx.2 (by rw [ha]; simp) (by simp [hp, h4])⟩
  | [s], x :: x' :: xs, y, us, n, pre, post, hy, _, _, _ => by simp [vTs, Rd.val] at hy
  | [s], [], y, us, n, pre, post, hy, _, _, _ => by simp [vTs, Rd.val] at hy
  | [], _ :: _, y, us, n, pre, post, hy, _, _, _ => by simp [vTs, Rd.val] at hy
  | s :: s' :: r, [], y, us, n, pre, post, hy, _, _, _ => by simp [vTs, Rd.val] at hy

theorem finish_sound {w : World} {S0 : Nat → Nat → Prop} {E : Env} (hT : E.tt.ok P = true) {fn : Func} {rs : List Sh} {ex : Bool} {G : Gh} {S : St} {a : Act} {w' : World} {y : Tup rs} (hv : (finish E fn rs ex).val S = some y) (h : Inv ⟨w, S0⟩ G S a w') :
    ∃ v, (results fn a.tmps).run P w' = .ok v w' ∧ ResOk w.heap.size w' S0 ex rs y v := by
  simp only [finish, Rd.val_bind, Option.bind_eq_some_iff] at hv
  obtain ⟨xs, h1, ok, h2, hv⟩ := hv
  split at hv
  case isFalse => cases hv
  rename_i hok
  subst hok
  obtain ⟨us, hr, hus⟩ := results_run hT h h1
  refine ⟨pack us, ?_, us, rfl, ?_⟩
  · have e : (results fn a.tmps).run P w' = .ok (if h : us.toArray.size = 1 then us.toArray[0] else .tuple us.toArray) w' := by
      change ((fn.results.mapM (resSem a.tmps)) >>= fun vs => pure (if h : vs.size = 1 then vs[0] else .tuple vs)).run P w' = _
      simp only [Array.mapM_eq_mapM_toList, Sem.run_bind, Sem.run_map, hr, Result.andThen_ok, Sem.run_pure]
    rw [e]
    match us with
    | [] => rfl
    | [u] => rfl
    | u :: u' :: r => rw [dif_neg (by simp)]; rfl
  · cases ex with
    | true =>
      simp only [if_true, exOk, Rd.val_bind, Option.bind_eq_some_iff, Rd.val, Option.some.injEq] at h2
      obtain ⟨b, h3, h4⟩ := h2
      rw [Bool.and_eq_true] at h4
      obtain ⟨rfl, hnd⟩ := h4
      refine ⟨fun i b => ∃ c, (xs.flatMap V.cells)[i]? = some c ∧ rowsOf G S c b, vTs_own h h3 (pre := []) (post := []) hv hus (by simp) rfl, ?_, ?_⟩
      · rintro i c ⟨cc, _, k, j, _, how, _⟩
        exact h.olt _ _ how
      · rintro i i' c ⟨cc, hc, k, j, rfl, how, _⟩ ⟨cc', hc', k', j', rfl, how', _⟩
        rw [how] at how'
        cases how'
        exact ownKeys_unique hnd hc hc'
    | false =>
      refine ⟨fun b o => G.S b o ∨ AK G S (ownKeys (xs.flatMap V.cells)) b o, vTs_rep h _ 0 hv hus fun k j x hx hm => mem_cells hx hm, ?_⟩
      rintro b o (hs | ⟨k, j, _, _, _, _, _, _, how, _⟩)
      · refine ⟨?_, (h.sok b o hs).1⟩
        rcases Nat.lt_or_ge b w.heap.size with hl | hl
        · exact .inl (h.sfr b o hs hl)
        · exact .inr hl
      · have := h.olt _ _ how
        exact ⟨.inr this.1, this.2⟩

/-- THE EVALUATOR IS SOUND: a function whose data function is what the evaluator computes does what it says. -/
theorem sound_of_den {E : Env} (hE : EnvOk P E) (hm : P.follows .mixedOrders = true) (an : List (Nat × LA)) {s : Fsp} {fn : Func} (hf : P.funcs[s.fid]? = some fn)
    (hden : ∀ x, denF E an fn s.ps s.rs s.ex x = s.fn x) : Sound P s := by
  intro w S args x y hy hargs hS
  rw [← hden x] at hy
  unfold denF at hy
  split at hy
  · cases hy
  · rename_i c hb
    obtain ⟨G, h⟩ := init_inv hS (n := fn.ntmps) (vs := encVs s.ps x) (us := args) (fun G hG => encVs_rep (by rw [hG]; exact hargs))
    refine calls_of_wp hf hb (den_sound hE hm c hy h fun e S' a' w' G' hk h' => ?_)
    have key : (finish E fn s.rs s.ex).val S' = some y → bodyPost P fn (fun e w' => ∃ v, e = .returned v ∧ Below w.heap.size w w' ∧ ResOk w.heap.size w' S s.ex s.rs y v) .ret a' w' := by
      intro hv
      obtain ⟨v, h1, h2⟩ := finish_sound hE.1 hv h'
      exact ⟨h'.nodef, v, h1, v, rfl, h'.below, h2⟩
    cases e with
    | normal =>
      change (finish E fn s.rs s.ex).runK S' some = some y at hk
      rw [Rd.runK_eq, Option.bind_eq_some_iff] at hk
      obtain ⟨z, hz, hz'⟩ := hk
      cases hz'
      exact key hz
    | exit id => cases hk
    | ret =>
      change (finish E fn s.rs s.ex).runK S' some = some y at hk
      rw [Rd.runK_eq, Option.bind_eq_some_iff] at hk
      obtain ⟨z, hz, hz'⟩ := hk
      cases hz'
      exact key hz
end functions
end Go.Abs
