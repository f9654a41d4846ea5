import Derived.Test.YtgfjbogcidlaeaaGreatDoorS3
/- Regions, loops, code, functions. -/
set_option linter.unusedSimpArgs false
set_option linter.unusedVariables false
namespace Go.Abs
open Go.RowKit
theorem MG {S : St} {t : Nat} {v : AV} (h : S.gq t = v) (hne : v ≠ .undef) : S.fU t v = S := by
 cases S with
 | mk tmps boxes owns =>
  simp only [St.fU, St.gq] at *
  congr 1
  by_cases hl : t < tmps.length
  ·rw [zE, zF hl] at h
   simp only [Option.getD_some] at h
   rw [<- h, List.set_getElem_self]
  ·rw [List.set_eq_of_length_le (by omega)]
theorem Na {ρ : Type} {t : Nat} {S : St} {k : St -> Option ρ} {r : ρ} (h : fork t S k = some r) : k S = some r := by
 unfold fork at h
 split at h
 ·rename_i b hb
  cases b with
  | true => rw [<- MG hb (by simp)]; exact h
  | false => rw [<- MG hb (by simp)]; exact h
 ·exact h
theorem uN {ρ : Type} {x : Option Nat} {S : St} {k : St -> Option ρ} {r : ρ} (h : EX x S k = some r) : k S = some r := by
 unfold EX at h
 split at h
 ·exact h
 ·exact Na h
theorem Xy {S : St} {x : W} {l : L} (h : x.loc ≠ l) : agree S (S.put x) l := by
 cases x <;> cases l <;> simp only [W.loc, ne_eq, L.t.injEq, L.b.injEq, L.o.injEq] at h <;> simp only [agree, St.put] <;>
  first
   | rfl
   | (rw [MZ, if_neg fun e => h e.1])
   | (rw [iM, if_neg fun e => h e.1])
   | (rw [aY, if_neg fun e => h e.1])
theorem TK {S S' S'' : St} {l : L} (h : agree S S' l) (h' : agree S' S'' l) : agree S S'' l := by
 cases l <;> exact h'.trans h
theorem zN : ∀ (ws : List W) {S : St} {l : L}, (∀ x, x ∈ ws -> x.loc ≠ l) -> agree S (S.puts ws) l
 | [], S, l, _ => by cases l <;> rfl
 | x :: r, S, l, h => TK (Xy (h x List.mem_cons_self)) (zN r fun y hy => h y (List.mem_cons_of_mem _ hy))
theorem aa8 {S : St} {x y : W} (h : x.loc ≠ y.loc) : (S.put x).put y = (S.put y).put x := by
 have key : ∀ {α : Type} {l : List α} {i j : Nat} {a b : α}, i ≠ j -> (l.set i a).set j b = (l.set j b).set i a := fun hne => List.set_comm _ _ hne
 cases x <;> cases y <;> simp only [W.loc, ne_eq, L.t.injEq, L.b.injEq, L.o.injEq] at h <;> simp only [St.put] <;>
  first
   | rfl
   | (simp only [St.fU]; rw [key h])
   | (simp only [St.setB]; rw [key h])
   | (rw [aY, if_neg (by omega), aY, if_neg (by omega)]; simp only [St.bM]; rw [key h])
   | (rw [aY, if_neg (by omega)]; simp only [St.bM]; rw [key h])
   | (simp only [St.bM]; rw [key h])
theorem QX : ∀ (ws : List W) {S : St} {x : W}, (∀ y, y ∈ ws -> y.loc ≠ x.loc) -> (S.puts ws).put x = (S.put x).puts ws
 | [], S, x, _ => rfl
 | y :: r, S, x, h => by
  show ((S.put y).puts r).put x = ((S.put x).put y).puts r
  rw [QX r fun z hz => h z (List.mem_cons_of_mem _ hz), aa8 (h y List.mem_cons_self)]
theorem MO : ∀ (vs ws : List W) {S : St}, (∀ x y, x ∈ vs -> y ∈ ws -> y.loc ≠ x.loc) -> (S.puts ws).puts vs = (S.puts vs).puts ws
 | [], ws, S, _ => rfl
 | x :: r, ws, S, h => by
  show ((S.puts ws).put x).puts r = ((S.put x).puts r).puts ws
  rw [QX ws fun y hy => h x y List.mem_cons_self hy, MO r ws fun z y hz hy => h z y (List.mem_cons_of_mem _ hz) hy]
theorem wL {a b : List L} (h : meets a b = false) : ∀ x y, x ∈ a -> y ∈ b -> x ≠ y := by
 intro x y hx hy he
 simp only [meets, List.any_eq_false, List.any_eq_true, not_exists, not_and, decide_eq_true_eq] at h
 exact h x hx y hy he
inductive Run (E : Env) (ops : Array Oper) : List (Oper × Nat) -> St -> List Lg -> St -> Prop
 | nil (S : St) : Run E ops [] S [] S
 | cons (o : Oper) (i : Nat) (r : List (Oper × Nat)) (S S' : St) (ws : List W) (rs : List L) (g : List Lg) (h : (AQ E ops o).vI S [] = some (ws, rs)) (hr : Run E ops r (S.puts ws) g S') :
   Run E ops ((o, i) :: r) S ({ i, reads := rs, writes := ws.map W.loc } :: g) S'
theorem IC {ρ : Type} {E : Env} {ops : Array Oper} {k : St -> List Lg -> Option ρ} {r : ρ} : ∀ {l : List (Oper × Nat)} {S : St} {g : List Lg}, opsL E ops l S g k = some r ->
  ∃ g' S', Run E ops l S g' S' /\ k S' (g'.reverse ++ g) = some r
 | [], S, g, h => ⟨[], S, .nil S, h⟩
 | (o, i) :: l, S, g, h => by
  have h1 := uN (uN h)
  rw [Rd.aa3, zB] at h1
  obtain ⟨⟨ws, rs⟩, h2, h3⟩ := h1
  obtain ⟨g', S', h4, h5⟩ := IC h3
  exact ⟨_, S', .cons o i l S S' ws rs g' h2 h4, by simpa using h5⟩
theorem Run.front {E : Env} {ops : Array Oper} {o : Oper} {i : Nat} {post : List (Oper × Nat)} : ∀ {pre : List (Oper × Nat)} {S S' : St} {g : List Lg}, Run E ops (pre ++ (o, i) :: post) S g S' ->
  (∀ gpre gi gpost, g = gpre ++ gi :: gpost -> gpre.length = pre.length -> ∀ b, b ∈ gpre -> b.free gi = true) ->
  ∃ ws rs gpre gpost, g = gpre ++ { i, reads := rs, writes := ws.map W.loc } :: gpost /\ gpre.length = pre.length /\ (AQ E ops o).vI S [] = some (ws, rs) /\ Run E ops (pre ++ post) (S.puts ws) (gpre ++ gpost) S'
 | [], S, S', g, h, _ => by
  cases h with
  | cons _ _ _ _ _ ws rs g h1 hr => exact ⟨ws, rs, [], g, rfl, rfl, h1, hr⟩
 | (o1, i1) :: pre, S, S', g, h, hf => by
  cases h with
  | cons _ _ _ _ _ ws1 rs1 g1 h1 hr =>
   obtain ⟨ws, rs, gpre, gpost, rfl, hl, h2, h3⟩ := Run.front hr fun gpre gi gpost he hl b hb =>
    hf (_ :: gpre) gi gpost (by rw [he]; rfl) (by simp [hl]) b (List.mem_cons_of_mem _ hb)
   have hfree := hf (_ :: gpre) _ gpost rfl (by simp [hl]) _ List.mem_cons_self
   simp only [Lg.free, zI, Bool.not_eq_true'] at hfree
   obtain ⟨⟨f1, f2⟩, f3⟩ := hfree
   have e1 : (AQ E ops o).vI S [] = some (ws, rs) := Rd.Gs h2 fun x hx => by
    have := zN ws1 (S := S) (l := x) fun y hy => wL f1 y.loc x (List.mem_map_of_mem hy) hx
    cases x <;> exact Eq.symm this
   have e2 : (AQ E ops o1).vI (S.puts ws) [] = some (ws1, rs1) := Rd.Gs h1 fun x hx =>
    zN ws fun y hy => wL f3 y.loc x (List.mem_map_of_mem hy) hx
   refine ⟨ws, rs, _ :: gpre, gpost, rfl, by simp [hl], e1, ?_⟩
   refine .cons o1 i1 _ _ _ ws1 rs1 _ e2 ?_
   rw [MO ws1 ws fun x y hx hy => Ne.symm (wL f2 x.loc y.loc (List.mem_map_of_mem hx) (List.mem_map_of_mem hy))]
   exact h3
theorem Zw {acc : List Nat} {o : Oper} {k : Nat} (h : (wM acc o).testBit k = true) : ∃ e, e ∈ o.after.toList /\ Region.binds .any e = true /\ (k = e.on \/ (acc.getD e.on 0).testBit k = true) := by
 have key : ∀ (es : List Edge) (s : Nat), (es.foldl (fun s e => if Region.binds .any e then s ||| 2 ^ e.on ||| acc.getD e.on 0 else s) s).testBit k = true -> s.testBit k = true \/
   ∃ e, e ∈ es /\ Region.binds .any e = true /\ (k = e.on \/ (acc.getD e.on 0).testBit k = true) := by
  intro es
  induction es with
  | nil => intro s h; exact .inl h
  | cons e es ih =>
   intro s h
   simp only [List.foldl_cons] at h
   rcases ih _ h with h1 | ⟨e', he', h2⟩
   ·split at h1
    ·rename_i hb
     simp only [Nat.testBit_or, Bool.or_eq_true] at h1
     rcases h1 with (h1 | h1) | h1
     ·exact .inl h1
     ·rw [Nat.testBit_two_pow] at h1
      exact .inr ⟨e, List.mem_cons_self, hb, .inl (by simp at h1; exact h1.symm)⟩
     ·exact .inr ⟨e, List.mem_cons_self, hb, .inr h1⟩
    ·exact .inl h1
   ·exact .inr ⟨e', List.mem_cons_of_mem _ he', h2⟩
 rcases key _ _ h with h1 | h1
 ·simp at h1
 ·exact h1
theorem MS : ∀ (l : List Oper) (acc : List Nat) (i : Nat), (∀ i, i < acc.length -> (masks acc l)[i]? = acc[i]?) /\ (∀ o, l[i]? = some o -> ∃ acc', (∀ j, j < acc'.length -> (masks acc l)[j]? = acc'[j]?) /\ acc'.length = acc.length + i /\ (masks acc l)[acc.length + i]? = some (wM acc' o))
 | [], acc, i => ⟨fun _ _ => rfl, fun o h => by simp at h⟩
 | o1 :: r, acc, i => by
  have ih := MS r (acc ++ [wM acc o1])
  have h1 : ∀ i, i < acc.length -> (masks acc (o1 :: r))[i]? = acc[i]? := fun i hi => by
   show (masks (acc ++ [wM acc o1]) r)[i]? = _
   rw [(ih 0).1 i (by simp; omega), List.getElem?_append_left hi]
  refine ⟨h1, fun o ho => ?_⟩
  cases i with
  | zero =>
   simp at ho
   subst ho
   refine ⟨acc, h1, rfl, ?_⟩
   show (masks (acc ++ [wM acc o1]) r)[acc.length + 0]? = _
   rw [(ih 0).1 _ (by simp)]
   simp
  | succ i =>
   obtain ⟨acc', a1, a2, a3⟩ := (ih i).2 o (by simpa using ho)
   refine ⟨acc', a1, by simp at a2; omega, ?_⟩
   have e : acc.length + (i + 1) = (acc ++ [wM acc o1]).length + i := by simp; omega
   rw [e]
   exact a3
section regions
variable {P : Program} {w0 : Bs} {E : Env} {ops : Array Oper} {Q : Exit -> Act -> World -> Prop}
theorem NQ {G : Gh} {S : St} {a : Act} {w : World} (h : Inv w0 G S a w) {o : Oper} {b : Bool} (hv : (NR ops o).val S = some b) : Region.wanted o (yielded ops a.tmps) = b := by
 unfold NR at hv
 unfold Region.wanted
 split at hv
 ·rename_i hg
  simp only [Rd.val, zD] at hv
  rw [hg]; exact hv
 ·rename_i j want hg
  rw [hg]
  split at hv
  ·cases hv
  ·rename_i t ht
   simp only [Rd.val] at hv
   have hr := h.gq t
   have hy : ∀ v, a.tmps.getD t undef = v -> v ≠ undef -> a.tmps[t]? = some v := by
    intro v hv hne
    cases he : a.tmps[t]? with
    | none => simp [he] at hv; exact absurd hv.symm hne
    | some u => simp [he] at hv; rw [hv]
   split at hv
   ·rename_i bb hbb
    simp only [Rd.val, zD] at hv
    rw [hbb] at hr
    have hr' : Rep w G.S (.bool bb) (a.tmps.getD t undef) := hr
    generalize hvv : a.tmps.getD t undef = vv at hr'
    cases hr'
    have := hy _ hvv (by simp [undef])
    simp only [yielded, ht, zA, this]
    rw [<- hv]
    cases bb <;> cases want <;> rfl
   ·rename_i hbb
    simp only [Rd.val, zD] at hv
    rw [hbb] at hr
    obtain ⟨us, hvv, hus⟩ := hr
    have hus' : us = [] := by cases us with
     | nil => rfl
     | cons => exact hus.elim
    subst hus'
    rw [<- hv]
    have : yielded ops a.tmps j = none := by
     simp only [yielded, ht, zA]
     cases he : a.tmps[t]? with
     | none => rfl
     | some u =>
      simp [he] at hvv
      rw [hvv]
    show (yielded ops a.tmps j == some want) = false
    rw [this]
    rfl
   ·cases hv
theorem GK {G : Gh} {S : St} {a : Act} {w : World} (hE : vO P E w0) (h : Inv w0 G S a w) {o : Oper} {i : Nat} (hi : ops[i]? = some o) {ws : List W} (hv : (AQ E ops o).val S = some ws) {K : Act -> World -> Prop}
  (hK : ∀ a' w' G', Inv w0 G' (S.puts ws) a' w' -> K a' w') : wpOp P ops Q i K a w := by
 unfold AQ at hv
 rw [Rd.ak, zB] at hv
 obtain ⟨b, h1, h2⟩ := hv
 have hw := NQ h h1
 unfold wpOp
 rw [hi]
 simp only [hw]
 cases b with
 | true => exact .inl (Nr h hE h2 hK)
 | false =>
  simp only [Rd.val, zD] at h2
  subst h2
  exact hK _ _ _ (h.dst xJ)
theorem AU {o1 : Oper} {l : List Oper} {q : Srt × Operand × Nat × Nat × Nat × Oper} (h : AX E o1 l = some q) : ∃ (o2 o3 : Oper) (r : List Oper) (T : Nat) (x : Operand) (d1 g : Nat) (first cap : Array Operand) (d2 : Nat) (c : Call) (f b : Nat) (s : Srt),
  l = o2 :: o3 :: r /\ o1.op = .makeInterface T x /\ o1.dst = some d1 /\ o2.op = .makeFunc (.func g) first cap /\ o2.dst = some d2 /\ o3.op = .call c /\ c.callee = .value (.func f) /\ first.toList = [] /\ cap.toList = [.tmp b] /\ c.args.toList = [.tmp d1, .tmp d2] /\
  o1.guard = none /\ o2.guard = none /\ o3.guard = none /\ d1 ≠ d2 /\ b ≠ d1 /\ s ∈ E.so /\ s.fid = f /\ s.g = g /\ s.T = T /\ q = (s, x, b, d1, d2, o3) := by
 unfold AX at h
 split at h
 case h_2 => cases h
 rename_i o2 o3 r
 split at h
 case h_2 => cases h
 rename_i T x d1 g first cap d2 c h1 h2 h3 h4 h5
 split at h
 case h_2 => cases h
 rename_i f b e1 e2 k1 k2 k3 k4
 split at h
 case isFalse => cases h
 rename_i hc
 simp only [zI, Option.isNone_iff_eq_none, beq_iff_eq, bne_iff_ne, ne_eq] at hc
 obtain ⟨⟨⟨⟨⟨⟨g1, g2⟩, g3⟩, c1⟩, c2⟩, c3⟩, c4⟩ := hc
 rw [Option.map_eq_some_iff] at h
 obtain ⟨s, hs, rfl⟩ := h
 have hp := List.find?_some hs
 simp only [zI, beq_iff_eq] at hp
 subst c1 c2
 exact ⟨o2, o3, r, T, x, e1, g, first, cap, e2, c, f, b, s, rfl, h1, h2, h3, h4, h5, k1, k2, k3, k4, g1, g2, g3, c3, c4, List.mem_of_find?_eq_some hs, hp.1.1, hp.1.2, hp.2, rfl⟩
theorem KL {T : TypeId} {d : TypeDesc} (hu : P.underlying T = some d) (hd : ∀ ms, d ≠ .interface ms) (v : Value) (w : World) : (Instr.makeInterface T v).run P w = .ok (.iface T v) w := by
 unfold Instr.makeInterface
 have := run_underlying hu w
 rw [Sem.run_bind, this]
 simp only [Result.andThen]
 cases d <;> first | rfl | exact absurd rfl (hd _)
theorem y5 {a : Act} {d : Nat} {v : Value} (h : d < a.tmps.size) : (a.put (some d) v).eval (.tmp d) = v := by
 simp [Act.put, Act.eval, h]
theorem xA {a : Act} {d e : Nat} {v : Value} (h : e ≠ d) : (a.put (some d) v).eval (.tmp e) = a.eval (.tmp e) := by
 simp [Act.put, Act.eval, Array.getElem?_setIfInBounds, Ne.symm h]
theorem TU (hE : vO P E w0) {G : Gh} {S : St} {a : Act} {w : World} (h : Inv w0 G S a w) {o1 o2 o3 : Oper} {r : List Oper} {q : Srt × Operand × Nat × Nat × Nat × Oper} (hq : AX E o1 (o2 :: o3 :: r) = some q)
  {ws : List W} (hv : (Gf q).val S = some ws) {K : Act -> World -> Prop} (hK : ∀ a' w' G', Inv w0 G' (S.puts ws) a' w' -> K a' w') :
  o1.wp P a w (fun a1 w1 => o2.wp P a1 w1 (fun a2 w2 => o3.wp P a2 w2 K Q) Q) Q := by
 obtain ⟨o2', o3', r', T, x, d1, g, first, cap, d2, c, f, b, s, hl, h1, h2, h3, h4, h5, k1, k2, k3, k4, g1, g2, g3, c3, c4, hs, hsf, hsg, hsT, rfl⟩ := AU hq
 simp only [List.cons.injEq] at hl
 obtain ⟨rfl, rfl, rfl⟩ := hl
 obtain ⟨hcall, hsound, dd, hu, hdd⟩ := hE.2.2.2.2.2.2.1 s hs
 unfold Gf at hv
 simp only [Rd.ak, zB] at hv
 obtain ⟨ax, e1, v, e2, hv⟩ := hv
 split at hv
 case h_2 => cases hv
 rename_i k j
 simp only [Rd.val] at hv
 split at hv
 case h_2 => cases hv
 rename_i bi hbb
 simp only [Rd.val] at hv
 split at hv
 case h_2 => cases hv
 rename_i k' j' hbx
 split at hv
 case isFalse => cases hv
 rename_i hkj
 obtain ⟨rfl, rfl⟩ := hkj
 simp only [Rd.val] at hv
 split at hv
 case h_2 => cases hv
 rename_i t xs deep hown
 split at hv
 case isFalse => cases hv
 rename_i htt
 subst htt
 simp only [Rd.val, zB] at hv
 obtain ⟨ys, h7, hv⟩ := hv
 split at hv
 case isFalse => cases hv
 rename_i hsz
 simp only [Rd.val, zD] at hv
 subst hv
 have hxr : pR G w (.one (.own k j)) (a.eval x) := lZ e2 (aS h e1)
 have hxv : a.eval x = G.ov k j := hxr.2.1
 have hbr : iE G w (.v (.one (.ptr bi 0))) (a.eval (.tmp b)) := by rw [<- hbb]; exact h.gq b
 have hbv : a.eval (.tmp b) = .pointer (some ⟨G.bk bi, 0, none⟩) := hbr.2
 obtain ⟨hob, vs, Eb, hheap, hcs⟩ := h.box bi _ hbx
 have hvs : vs = [a.eval x] := by
  match vs, hcs with
  | [], hc => exact hc.elim
  | [u], hc => rw [hxv, <- hc.1.2.1]
  | _ :: _ :: _, hc => exact hc.2.elim
 rw [hvs] at hheap
 have how : OwT w G.S deep true s.t xs (a.eval x) (eH G k j) := by
  have := h.owns k j
  rw [hown] at this
  rw [hxv]; exact this
 have hno : ¬ eH G k j (G.bk bi) := fun hf => by
  have hf : G.ow (G.bk bi) = some (.own k j) := hf
  rw [hob] at hf; cases hf
 have hC := hsound w G.S deep (G.bk bi) Eb (a.eval x) xs ys (eH G k j) h7 (hE.am.keep w h.below) how (fun c hc => (h.olt _ _ hc).2) (fun b o hs => (h.sok b o hs).1) hheap hno
 have hz1 : d1 < a.tmps.size := by rw [h.tsz]; exact hsz.1
 have hz2 : d2 < a.tmps.size := by rw [h.tsz]; exact hsz.2
 refine aJ (v := .iface T (a.eval x)) (w' := w) ?_ ?_
 ·unfold execOp
  rw [h1]
  show ((Instr.makeInterface T (a.eval x)) >>= fun y => pure (Next.value y)).run P w = _
  rw [Sem.run_bind, KL (hsT ▸ hu) hdd]
  rfl
 rw [h2]
 refine aJ (v := .func (.func g) #[] #[.pointer (some ⟨G.bk bi, 0, none⟩)]) (w' := w) ?_ ?_
 ·unfold execOp
  rw [h3]
  have ef : first = #[] := by cases first; simp at k2; rw [k2]
  have ec : cap = #[.tmp b] := by cases cap; simp at k3; rw [k3]
  subst ef ec
  have : (a.put (some d1) (.iface T (a.eval x))).eval (.tmp b) = .pointer (some ⟨G.bk bi, 0, none⟩) := by rw [xA c4, hbv]
  simp only [List.map_toArray, List.map_cons, List.map_nil, this]
  rfl
 rw [h4]
 have hargs : c.args.map ((a.put (some d1) (.iface T (a.eval x))).put (some d2) (.func (.func g) #[] #[.pointer (some ⟨G.bk bi, 0, none⟩)])).eval = #[.iface s.T (a.eval x), .func (.func s.g) #[] #[.pointer (some ⟨G.bk bi, 0, none⟩)]] := by
  rw [jZ k4]
  simp only [List.map_toArray, List.map_cons, List.map_nil]
  rw [xA c3, y5 hz1, y5 (by simp [Act.put]; exact hz2), hsT, hsg]
 unfold Oper.wp
 rw [jq h5 k1 (hsf ▸ hcall), hargs]
 subst hsf
 refine Calls.mono hC fun e w' he => ?_
 obtain ⟨rfl, hoff, hT'⟩ := he
 rw [hxv] at hT'
 have h9 := Q5 h hown hoff hT'
 refine hK _ _ G ?_
 rw [dM]
 have h10 := h9.fU d1 (av := .undef) (v := .iface T (a.eval x)) trivial
 have h11 := h10.fU d2 (av := .undef) (v := .func (.func g) #[] #[.pointer (some ⟨G.bk bi, 0, none⟩)]) trivial
 exact h11.dst (o := o3) (av := .tup []) (v := .tuple #[]) ⟨[], rfl, trivial⟩
theorem sU {o : Oper} {i : Nat} (hi : ops[i]? = some o) (hg : o.guard = none) {K : Act -> World -> Prop} {a : Act} {w : World} (h : o.wp P a w K Q) : wpOp P ops Q i K a w := by
 unfold wpOp
 have : Region.wanted o (yielded ops a.tmps) = true := by unfold Region.wanted; rw [hg]
 rw [hi]
 simp only [this]
 exact .inl h
theorem zU {ρ : Type} (hE : vO P E w0) {k : St -> Option ρ} {r : ρ} (hQ : ∀ S' a' w' G', k S' = some r -> Inv w0 G' S' a' w' -> Q .normal a' w') :
  ∀ (n : Nat) {l : List Oper} {i : Nat} {G : Gh} {S : St} {a : Act} {w : World}, l.length <= n -> ops.toList.drop i = l -> KP E ops 0 l S k = some r -> Inv w0 G S a w -> wpOps P ops Q (List.range' i l.length) a w
 | _, [], i, G, S, a, w, _, _, hv, h => hQ S a w G hv h
 | 0, o :: l, i, G, S, a, w, hn, _, _, _ => absurd hn (by simp)
 | n + 1, o :: l, i, G, S, a, w, hn, hd, hv, h => by
  have get : ∀ (t : Nat) (y : Oper), (o :: l)[t]? = some y -> ops[i + t]? = some y := fun t y hy => by
   have : (ops.toList.drop i)[t]? = some y := by rw [hd]; exact hy
   rw [List.getElem?_drop] at this
   simpa using this
  have dr : ∀ t, ops.toList.drop (i + t) = (o :: l).drop t := fun t => by rw [<- hd, List.drop_drop]
  have hi := get 0 o rfl
  cases hq : AX E o l with
  | none =>
   have hv' : EX (Vd ops o) S (fun S => EX (Zb o) S fun S => (AQ E ops o).runK S fun ws => KP E ops 0 l (S.puts ws) k) = some r := by
    unfold KP at hv
    rw [hq] at hv
    exact hv
   have hv1 := uN (uN hv')
   rw [Rd.iF, zB] at hv1
   obtain ⟨ws, h2, h3⟩ := hv1
   show wpOps P ops Q (i :: List.range' (i + 1) l.length) a w
   rw [wpOps_cons]
   exact GK hE h hi h2 fun a' w' G' h' => zU hE hQ n (by simpa using hn) (dr 1) h3 h'
  | some q =>
   obtain ⟨o2, o3, l', T, x, d1, g, first, cap, d2, c, f, b, s, hl, h1, h2, h3, h4, h5, k1, k2, k3, k4, g1, g2, g3, c3, c4, hs, hsf, hsg, hsT, hqq⟩ := AU hq
   subst hl
   have hv' : (Gf q).runK S (fun ws => KP E ops 2 (o2 :: o3 :: l') (S.puts ws) k) = some r := by
    unfold KP at hv
    rw [hq] at hv
    exact hv
   rw [Rd.iF, zB] at hv'
   obtain ⟨ws, e2, e3⟩ := hv'
   have e3 : KP E ops 0 l' (S.puts ws) k = some r := e3
   show wpOps P ops Q (i :: (i + 1) :: (i + 1 + 1) :: List.range' (i + 1 + 1 + 1) l'.length) a w
   rw [wpOps_cons]
   refine sU hi g1 ?_
   have := TU (Q := Q) hE h hq e2 (K := wpOps P ops Q (List.range' (i + 1 + 1 + 1) l'.length)) fun a' w' G' h' => zU hE hQ n (by simp at hn ⊢; omega) (dr 3) e3 h'
   refine Oper.wp_mono (fun a1 w1 hh => ?_) this
   rw [wpOps_cons]
   refine sU (get 1 o2 rfl) g2 ?_
   refine Oper.wp_mono (fun a2 w2 hh2 => ?_) hh
   rw [wpOps_cons]
   exact sU (get 2 o3 rfl) g3 hh2
theorem UF {ρ : Type} (hE : vO P E w0) {k : St -> Option ρ} {r : ρ} (hQ : ∀ S' a' w' G', k S' = some r -> Inv w0 G' S' a' w' -> Q .normal a' w')
  {l : List Oper} {i : Nat} {G : Gh} {S : St} {a : Act} {w : World} (hd : ops.toList.drop i = l) (hv : adM E ops l S k = some r) (h : Inv w0 G S a w) : wpOps P ops Q (List.range' i l.length) a w :=
 zU hE hQ l.length (Nat.le_refl _) hd hv h
end regions
end Go.Abs
namespace Go.Abs
open Go.RowKit
theorem UL {ops : Array Oper} {i k : Nat} (h : ((masks [] ops.toList).getD i 0).testBit k = true) :
  ∃ o e, ops[i]? = some o /\ e ∈ o.after.toList /\ Region.binds .any e = true /\ (k = e.on \/ (e.on < i /\ ((masks [] ops.toList).getD e.on 0).testBit k = true)) := by
 cases ho : ops.toList[i]? with
 | none =>
  exfalso
  have hlen : (masks [] ops.toList).length = ops.toList.length := by
   have key : ∀ (l : List Oper) (acc : List Nat), (masks acc l).length = acc.length + l.length := by
    intro l
    induction l with
    | nil => intro acc; rfl
    | cons o r ih => intro acc; show (masks (acc ++ [wM acc o]) r).length = _; rw [ih]; simp; omega
   have := key ops.toList []
   simpa using this
  have hi : ops.toList.length <= i := by simpa using ho
  rw [zE, zJ (by omega)] at h
  simp at h
 | some o =>
  obtain ⟨acc', a1, a2, a3⟩ := (MS ops.toList [] i).2 o ho
  simp only [List.length_nil, Nat.zero_add] at a2 a3
  rw [zE, a3] at h
  obtain ⟨e, he, hb, hk⟩ := Zw h
  refine ⟨o, e, by simpa using ho, he, hb, hk.imp id fun hk => ?_⟩
  by_cases hlt : e.on < i
  ·refine ⟨hlt, ?_⟩
   rw [zE, a1 _ (by omega), <- zE]
   exact hk
  ·rw [zE, zJ (by omega)] at hk
   simp at hk
def Closed (ops : Array Oper) (listed : Array Bool) : Prop := ∀ i o e, listed.getD i false = true -> ops[i]? = some o -> e ∈ o.after.toList -> Region.binds .any e = true -> listed.getD e.on false = true
theorem Fa {ops : Array Oper} {listed : Array Bool} (hc : Closed ops listed) : ∀ (n i k : Nat), i < n -> (∀ o e, ops[i]? = some o -> e ∈ o.after.toList -> Region.binds .any e = true -> listed.getD e.on false = true) ->
  ((masks [] ops.toList).getD i 0).testBit k = true -> listed.getD k false = true
 | 0, i, k, hn, _, _ => by omega
 | n + 1, i, k, hn, hi, hb => by
  obtain ⟨o, e, ho, he, hbd, hk⟩ := UL hb
  have hl := hi o e ho he hbd
  rcases hk with rfl | ⟨hlt, hk⟩
  ·exact hl
  ·exact Fa hc n e.on k (by omega) (fun o' e' ho' he' hb' => hc e.on o' e' hl ho' he' hb') hk
theorem sQ {bf : List Nat} : ∀ {g : List Lg}, yF bf g = true -> g.Pairwise fun a b => (bf.getD a.i 0).testBit b.i = true \/ b.free a = true
 | [], _ => .nil
 | a :: r, h => by
  simp only [yF, zI, List.all_eq_true, Bool.or_eq_true] at h
  exact .cons (fun b hb => h.1 b hb) (sQ h.2)
theorem Run.idx {E : Env} {ops : Array Oper} {l : List (Oper × Nat)} {S S' : St} {g : List Lg} (h : Run E ops l S g S') : g.map Lg.i = l.map (·.2) := by
 induction h with
 | nil S => rfl
 | cons o i r S S' ws rs g h hr ih => simp [ih]
section regions
variable {P : Program} {w0 : Bs} {E : Env} {ops : Array Oper} {Q : Exit -> Act -> World -> Prop}
theorem NF (hE : vO P E w0) {S' : St} (hQ : ∀ a' w' G', Inv w0 G' S' a' w' -> Q .normal a' w') (hback : ∀ i o e, ops[i]? = some o -> e ∈ o.after.toList -> Region.binds .any e = true -> e.on < i) :
  ∀ (fuel : Nat) {listed : Array Bool} {l : List (Oper × Nat)} {S : St} {g : List Lg} {a : Act} {w : World} {G : Gh}, listed.size = ops.size -> Closed ops listed ->
   (∀ o i, (o, i) ∈ l -> ops[i]? = some o /\ listed.getD i true = false) -> (∀ o i, ops[i]? = some o -> listed.getD i true = false -> (o, i) ∈ l) -> l.Pairwise (fun x y => x.2 < y.2) ->
   Run E ops l S g S' -> g.Pairwise (fun b a => ((masks [] ops.toList).getD a.i 0).testBit b.i = true \/ b.free a = true) -> Inv w0 G S a w -> l.length <= fuel -> wpAny P .any ops Q fuel listed a w
 | 0, listed, l, S, g, a, w, G, _, _, _, hb, _, hr, _, h, hf => by
  have hl : l = [] := List.eq_nil_of_length_eq_zero (by omega)
  subst hl
  cases hr
  refine ⟨?_, hQ _ _ _ h⟩
  rw [List.eq_nil_iff_forall_not_mem]
  intro j hj
  obtain ⟨h0, o, ho, _⟩ := mem_ready.1 hj
  exact absurd (hb o j ho h0) (by simp)
 | fuel + 1, listed, l, S, g, a, w, G, hsz, hcl, ha, hb, hp, hr, hg, h, hf => by
  refine ⟨fun hnil => ?_, fun i hi => ?_⟩
  ·cases l with
   | nil => cases hr; exact hQ _ _ _ h
   | cons x r =>
    obtain ⟨o, i⟩ := x
    exfalso
    obtain ⟨ho, hun⟩ := ha o i List.mem_cons_self
    have hm : i ∈ Region.ready .any ops listed := by
     refine mem_ready.2 ⟨hun, o, ho, fun e he hbd => ?_⟩
     have hlt := hback i o e ho (by simpa using he) hbd
     have hil : i < ops.size := (Array.getElem?_eq_some_iff.1 ho).1
     cases hx : listed.getD e.on false with
     | true => rfl
     | false =>
      have hx' : listed.getD e.on true = false := by
       have : e.on < listed.size := by omega
       simp [this] at hx ⊢; exact hx
      have hmem := hb ops[e.on] e.on (by simp) hx'
      rcases List.mem_cons.1 hmem with he' | he'
      ·have := congrArg Prod.snd he'; simp at this; omega
      ·have := (List.pairwise_cons.1 hp).1 _ he'; simp at this; omega
    rw [hnil] at hm; cases hm
  ·obtain ⟨hun, o, ho, hall⟩ := mem_ready.1 hi
   have hmem := hb o i ho hun
   obtain ⟨pre, post, rfl⟩ := List.append_of_mem hmem
   have hidx := hr.idx
   obtain ⟨ws, rs, gpre, gpost, rfl, hgl, hv, hr'⟩ := hr.front fun gpre gi gpost hge hgl b hbm => by
    subst hge
    have hgi : gi.i = i := by
     have := congrArg (fun l => l[pre.length]?) hidx
     simp [<- hgl] at this
     simpa [hgl] using this
    have hbi : b.i ∈ pre.map (·.2) := by
     have e1 : (gpre.map Lg.i) = pre.map (·.2) := by
      have := congrArg (List.take pre.length) hidx
      simp only [List.map_append, List.map_cons] at this
      rw [List.take_left' (by simp [hgl]), List.take_left' (by simp)] at this
      exact this
     rw [<- e1]; exact List.mem_map_of_mem hbm
    rw [List.pairwise_append] at hg
    have := hg.2.2 b hbm gi List.mem_cons_self
    rcases this with hbit | hfr
    ·exfalso
     rw [hgi] at hbit
     have hlst := Fa hcl (i + 1) i b.i (by omega) (fun o' e' ho' he' hb' => by
      rw [ho] at ho'; cases ho'
      exact hall e' (by simpa using he') hb') hbit
     obtain ⟨⟨o2, i2⟩, hm2, he2⟩ := List.mem_map.1 hbi
     have := (ha o2 i2 (by simp [hm2])).2
     simp only at he2
     rw [<- he2] at hlst
     have hi2 : i2 < listed.size := by
      have := (ha o2 i2 (by simp [hm2])).1
      have := (Array.getElem?_eq_some_iff.1 this).1
      omega
     simp [hi2] at hlst this
     rw [hlst] at this; cases this
    ·exact hfr
   refine GK hE h ho (Rd.Yn hv) fun a' w' G' h' => ?_
   have hil : i < ops.size := (Array.getElem?_eq_some_iff.1 ho).1
   rw [List.pairwise_append] at hp hg
   refine NF hE hQ hback fuel (l := pre ++ post) (by simp [hsz]) ?_ ?_ ?_ ?_ hr' ?_ h' (by simp at hf ⊢; omega)
   ·intro i' o' e' hi' ho' he' hbd
    by_cases hii : i = i'
    ·subst hii
     rw [ho] at ho'; cases ho'
     exact getD_set_true (hall e' (by simpa using he') hbd)
    ·rw [getD_set_ne false hii] at hi'
     exact getD_set_true (hcl i' o' e' hi' ho' he' hbd)
   ·intro o' i' hm'
    have hne : i ≠ i' := by
     rcases List.mem_append.1 hm' with hm' | hm'
     ·have := hp.2.2 _ hm' _ List.mem_cons_self; simp at this; omega
     ·have := (List.pairwise_cons.1 hp.2.1).1 _ hm'; simp at this; omega
    have := ha o' i' (by rcases List.mem_append.1 hm' with hm' | hm' <;> simp [hm'])
    exact ⟨this.1, by rw [getD_set_ne true hne]; exact this.2⟩
   ·intro o' i' ho' hun'
    have hne : i ≠ i' := by
     rintro rfl
     have : i < listed.size := by omega
     simp [this] at hun'
    rw [getD_set_ne true hne] at hun'
    have := hb o' i' ho' hun'
    rcases List.mem_append.1 this with hm' | hm'
    ·exact List.mem_append_left _ hm'
    ·rcases List.mem_cons.1 hm' with he' | hm'
     ·have := congrArg Prod.snd he'; simp at this; exact absurd this.symm hne
     ·exact List.mem_append_right _ hm'
   ·rw [List.pairwise_append]
    exact ⟨hp.1, (List.pairwise_cons.1 hp.2.1).2, fun x hx y hy => hp.2.2 x hx y (List.mem_cons_of_mem _ hy)⟩
   ·rw [List.pairwise_append]
    exact ⟨hg.1, (List.pairwise_cons.1 hg.2.1).2, fun x hx y hy => hg.2.2 x hx y (List.mem_cons_of_mem _ hy)⟩
theorem S9 (hE : vO P E w0) {G : Gh} {S S' : St} {a : Act} {w : World} {g : List Lg} (hr : Run E ops ops.toList.zipIdx S g.reverse S')
  (hc : Ed ops.toList.zipIdx = true /\ yF (masks [] ops.toList) g = true) (h : Inv w0 G S a w)
  (hQ : ∀ a' w' G', Inv w0 G' S' a' w' -> Q .normal a' w') : wpAny P .any ops Q ops.size (Array.replicate ops.size false) a { w with drawn := w.drawn + 1 } := by
 have hzip : ∀ o i, (o, i) ∈ ops.toList.zipIdx ↔ ops[i]? = some o := by
  intro o i
  rw [List.mem_zipIdx_iff_getElem?]
  simp
 have hfr := sQ hc.2
 rw [<- List.pairwise_reverse] at hfr
 refine NF hE (S' := S') hQ (fun i o e ho he hb => ?_) ops.size (l := ops.toList.zipIdx) (by simp) ?_ (fun o i hm' => ⟨(hzip o i).1 hm', ?_⟩) (fun o i ho _ => (hzip o i).2 ho) ?_ hr hfr (h.grow ((Below.refl _ _).drew)) (by simp)
 ·have := List.all_eq_true.1 hc.1 _ ((hzip o i).2 ho)
  simp only [List.all_eq_true, Bool.or_eq_true, Bool.not_eq_true', decide_eq_true_eq] at this
  rcases this e he with h1 | h1
  ·rw [hb] at h1; cases h1
  ·exact h1
 ·intro i o e hi
  by_cases hl : i < ops.size
  ·simp [hl] at hi
  ·simp [hl] at hi
 ·have := (Array.getElem?_eq_some_iff.1 ((hzip o i).1 hm')).1
  simp [this]
 ·have key : ∀ (l : List Oper) (n : Nat), (l.zipIdx n).Pairwise (fun x y => x.2 < y.2) /\ ∀ x ∈ l.zipIdx n, n <= x.2 := by
   intro l
   induction l with
   | nil => intro n; exact ⟨.nil, fun x hx => by cases hx⟩
   | cons o l ih =>
    intro n
    obtain ⟨h1, h2⟩ := ih (n + 1)
    refine ⟨.cons (fun y hy => ?_) h1, fun x hx => ?_⟩
    ·have := h2 y hy; simp; omega
    ·rcases List.mem_cons.1 hx with rfl | hx
     ·exact Nat.le_refl _
     ·have := h2 x hx; omega
  exact (key _ 0).1
theorem abP (hE : vO P E w0) (hm : P.follows .mixedOrders = true) {id : Nat} {G : Gh} {S S' : St} {a : Act} {w : World} {g : List Lg} (hr : Run E ops ops.toList.zipIdx S g.reverse S')
  (hc : Ed ops.toList.zipIdx = true /\ yF (masks [] ops.toList) g = true) (h : Inv w0 G S a w)
  (hQ : ∀ a' w' G', Inv w0 G' S' a' w' -> Q .normal a' w') : (Code.region id ops true).wp P Q a w := wp_region_any hm (S9 hE hr hc h hQ)
theorem o9 : ∀ (keys : List (Nat × Nat)) {G : Gh} {S : St} {a : Act} {w : World}, Inv w0 G S a w -> ∃ G', Inv w0 G' (S.puts (keys.map fun q => W.nomut q.1 q.2)) a w
 | [], G, S, a, w, h => ⟨G, h⟩
 | q :: r, G, S, a, w, h => by
  obtain ⟨G1, h1, _⟩ := h.NZ q.1 q.2
  exact o9 r h1
theorem Vk {ρ : Type} (hE : vO P E w0) (hm : P.follows .mixedOrders = true) {id : Nat} {k : St -> Option ρ} {r : ρ} {G : Gh} {S : St} {a : Act} {w : World}
  (hv : XD E ops id S k = some r) (h : Inv w0 G S a w)
  (hQ : ∀ S' a' w' G', k S' = some r -> Inv w0 G' S' a' w' -> Q .normal a' w') : (Code.region id ops true).wp P Q a w := by
 unfold XD at hv
 obtain ⟨g2, S2, hr2, hk2⟩ := IC hv
 simp only [List.append_nil] at hk2
 split at hk2
 case isFalse => cases hk2
 rename_i hc
 rw [zI] at hc
 obtain ⟨G2, h2⟩ := o9 (Za E id) h
 exact abP hE hm (g := g2.reverse) (by rw [List.reverse_reverse]; exact hr2) hc h2 fun a' w' G' h' => hQ S2 a' w' G' hk2 h'
end regions
end Go.Abs
namespace Go.Abs
open Go.RowKit
section loops
variable {w0 : Bs} {G : Gh} {S : St} {a : Act} {w : World}
theorem qy : ∀ {l : List (Nat × Nat)} {u : Unit}, (CQ l).val S = some u -> ∀ b n, (b, n) ∈ l -> ∃ cs, S.dP b = some cs /\ cs.length = n
 | [], _, _, b, n, hm => by cases hm
 | (b0, n0) :: r, u, h, b, n, hm => by
  simp only [CQ, Rd.val] at h
  split at h
  ·rename_i cs hcs
   split at h
   ·rename_i hl
    rcases List.mem_cons.1 hm with he | hm
    ·cases he; exact ⟨cs, hcs, hl⟩
    ·exact qy h b n hm
   ·cases h
  ·cases h
theorem Ip : ∀ {l : List (Nat × Nat × Nat)} {u : Unit}, (Iq l).val S = some u -> ∀ i b off, (i, b, off) ∈ l -> S.gq i = .v (.one (.ptr b off))
 | [], _, _, i, b, off, hm => by cases hm
 | (i0, b0, off0) :: r, u, h, i, b, off, hm => by
  simp only [Iq, Rd.val] at h
  split at h
  ·rename_i b' off' he
   split at h
   ·rename_i hl
    obtain ⟨rfl, rfl⟩ := hl
    rcases List.mem_cons.1 hm with he' | hm
    ·cases he'; exact he
    ·exact Ip h i b off hm
   ·cases h
  ·cases h
def cellV (G : Gh) (a : Act) (w : World) : It -> Value -> Prop
 | .t i _, v => a.tmps.getD i undef = v
 | .b b off _, v => w.cell? ⟨G.bk b, off, none⟩ = some v
theorem ab1 (h : Inv w0 G S a w) {it : It} {c : C} (hc : (cAt it).val S = some c) : ∃ v, cellV G a w it v /\ kY G w c v := by
 cases it with
 | t i s =>
  simp only [cAt, Rd.val] at hc
  have hr := h.gq i
  unfold avC at hc
  split at hc
  ·rename_i c' he
   simp only [Rd.val, zD] at hc
   subst hc
   rw [he] at hr
   exact ⟨_, rfl, hr⟩
  ·cases hc
 | b b off s =>
  simp only [cAt, Rd.val] at hc
  split at hc
  ·rename_i cs hcs
   simp only [Rd.val, zB, zD] at hc
   obtain ⟨c', hc', rfl⟩ := hc
   obtain ⟨_, vs, E, hh, hr⟩ := h.box b cs hcs
   obtain ⟨hl, hg⟩ := hr.get
   have hlt : off < vs.length := by have := (zC.1 hc').1; omega
   refine ⟨vs[off], ?_, hg off c' vs[off] hc' (by simp [hlt])⟩
   show w.cell? _ = _
   rw [cell_of_row _ _ _ _ _ _ hh]; simp [hlt]
  ·cases hc
def Sr.live : Sr -> Bool
 | .ro _ => false
 | _ => true
def aaI (S0 : Nat -> Nat -> Prop) (w : World) : (sr : Sr) -> sr.den -> Value -> (Nat -> Prop) -> Prop
 | .ro t, x, v, _ => ∃ d, t.cells x = [d] /\ Rep w S0 d v
 | .own t deep m _, xs, v, lab => OwT w S0 deep m t xs v lab
 | .part t _, z, v, lab => gu w S0 t z.1 z.2 v lab
theorem OwT.weak {S0 : Nat -> Nat -> Prop} {deep deep' m m' : Bool} {t : Ty} {xs : List t.den} {v : Value} {fp fp' : Nat -> Prop} (h : OwT w S0 deep' m' t xs v fp) (hd : deep = true -> deep' = true) (hm : m = true -> m' = true) (hfp : ∀ b, fp b -> fp' b) :
  OwT w S0 deep m t xs v fp' := by
 rcases h with he | ⟨b, cap, arr, E, vs, fps, e1, e2, e3, e4, e5, e6, e7, e8, e9, e10, e11⟩
 ·exact .inl he
 ·refine .inr ⟨b, cap, arr, E, vs, fps, e1, e2, e3, e4, e5, hfp _ e6, e7, fun i x j' d hx hd' => (e8 i x j' d hx hd').sub (fun _ hh => hh) hd, fun i j' c hcc => ⟨hfp _ (e9 i j' c hcc).1, (e9 i j' c hcc).2⟩, e10, fun o hs => ?_⟩
  obtain ⟨q1, q2⟩ := e11 o hs
  refine ⟨?_, q2⟩
  cases hm' : m with
  | false => rfl
  | true => rw [hm hm'] at q1; cases q1
def ad9 (S0 : Nat -> Nat -> Prop) (w : World) (it : It) (x : it.sr.den) (v : Value) (lab : Nat -> Prop) : Prop := aaI S0 w it.sr x v lab
theorem abI (h : Inv w0 G S a w) {sr : Sr} {c : C} {x : sr.den} {v : Value} (hx : (X7 sr c).val S = some x) (hc : kY G w c v) {S0 : Nat -> Nat -> Prop} (roks : List (Nat × Nat))
  (hS : ∀ b o, (G.S b o \/ AK G S roks b o) -> S0 b o) (hro : ∀ t, sr = .ro t -> ∀ k j, c = .own k j -> (k, j) ∈ roks)
  (hT : ∀ k j, c = .own k j -> sr.live = true -> ∀ b o, S0 b o -> G.ow b = some (.own k j) -> G.S b o) :
  aaI S0 w sr x v (fun b => ∃ k j, c = .own k j /\ G.ow b = some (.own k j)) := by
 cases sr with
 | ro t =>
  simp only [X7] at hx
  split at hx
  ·rename_i hsc
   simp only [Rd.ak, zB, Rd.val, zD] at hx
   obtain ⟨ds, h1, y, h2, h3⟩ := hx
   subst h3
   have htl : t.tys.length = 1 := by
    rw [lg]
    cases t with
    | base b => cases b <;> first | rfl | cases hsc
    | list t => rfl
   obtain ⟨hl, hg⟩ := P8 h1 (by simpa using htl)
   match ds, hl with
   | [d], _ =>
    obtain ⟨c', ty, hc', hcd⟩ := hg 0 d rfl
    simp at hc'
    subst hc'
    refine ⟨d, (Ty.bV h2), ?_⟩
    exact (JY h hcd hc roks fun k j e => hro t rfl k j e).move fun b o hs => ⟨hS b o hs, rfl⟩
  ·cases hx
 | own t deep m key =>
  simp only [X7] at hx
  split at hx
  ·simp only [Rd.val, zD] at hx
   subst hx
   exact .inl ⟨hc, rfl⟩
  ·rename_i k j
   simp only [Rd.val] at hx
   split at hx
   ·rename_i t' xs deep' m' hown
    split at hx
    ·rename_i htt
     subst htt
     split at hx
     ·rename_i hfl
      simp only [Rd.val, zD] at hx
      subst hx
      have hO := h.owns k j
      rw [hown] at hO
      have hO' : OwT w G.S deep' m' t' xs (G.ov k j) (eH G k j) := hO
      rw [<- hc.2.1] at hO'
      have h1 : OwT w S0 deep' m' t' xs v (eH G k j) := OwT.move hO' (fun b o hs => ⟨hS b o (.inl hs), rfl⟩) (fun b hb => ⟨hb, rfl⟩) fun b len cap hv hb o hs => .inl (hT k j rfl rfl b o hs hb)
      exact h1.weak hfl.1 hfl.2 fun b hb => ⟨k, j, rfl, hb⟩
     ·cases hx
    ·cases hx
   ·rename_i t' xs hown
    split at hx
    ·rename_i htt
     subst htt
     simp only [Rd.val, zD] at hx
     subst hx
     have hO := h.owns k j
     rw [hown] at hO
     obtain ⟨fp, q1, q2, q3⟩ := hO
     rw [<- hc.2.1] at q2
     exact (OwT.IK q2 q1 fun b o hs hb => q3 b o (hT k j rfl rfl b o hs (q1 b hb)) hb).weak (fun _ => rfl) (fun _ => rfl) fun b hb => ⟨k, j, rfl, hb⟩
    ·cases hx
   ·cases hx
  ·cases hx
 | part t key =>
  simp only [X7] at hx
  split at hx
  ·rename_i k j
   simp only [Rd.val] at hx
   split at hx
   ·rename_i t' xs hown
    split at hx
    ·rename_i htt
     subst htt
     simp only [Rd.val, zD] at hx
     subst hx
     have hO := h.owns k j
     rw [hown] at hO
     obtain ⟨fp, q1, q2, q3⟩ := hO
     rw [<- hc.2.1] at q2
     exact gu.IK q2 (fun b hb => ⟨k, j, rfl, q1 b hb⟩) fun b o hs hb => q3 b o (hT k j rfl rfl b o hs (q1 b hb)) hb
    ·cases hx
   ·rename_i t' xs i hown
    split at hx
    ·rename_i htt
     subst htt
     simp only [Rd.val, zD] at hx
     subst hx
     have hO := h.owns k j
     rw [hown] at hO
     have hO' : gu w G.S t' xs i (G.ov k j) (eH G k j) := hO
     rw [<- hc.2.1] at hO'
     exact gu.move hO' (fun b hb => ⟨⟨k, j, rfl, hb⟩, rfl⟩) fun b o hb hs => hT k j rfl rfl b o hs hb
    ·cases hx
   ·cases hx
  ·cases hx
theorem Inv.GU (h : Inv w0 G S a w) (i : Nat) {av : AV} (hv : iE G w av (a.tmps.getD i undef)) : Inv w0 G (S.fU i av) a w := by
 have h1 := h.fU i hv
 have e : a.put (some i) (a.tmps.getD i undef) = a := by
  simp only [Act.put]
  cases a with
  | mk tmps defers =>
   congr 1
   show tmps.setIfInBounds i (tmps.getD i undef) = tmps
   by_cases hl : i < tmps.size
   ·have hl' : i < tmps.toList.length := by simpa using hl
    have e1 : tmps.getD i undef = tmps.toList[i] := by simp [hl]
    rw [<- Array.toList_inj, Array.toList_setIfInBounds, e1, List.set_getElem_self]
   ·rw [Array.setIfInBounds_eq_of_size_le (Nat.le_of_not_lt hl)]
 rw [e] at h1
 exact h1
theorem Inv.Qs (h : Inv w0 G S a w) (b off : Nat) {cs : List C} (hb : S.dP b = some cs) {c : C} {v : Value} (hv : w.cell? ⟨G.bk b, off, none⟩ = some v) (hc : kY G w c v) :
  Inv w0 G (S.setB b (some (cs.set off c))) a w := by
 refine ⟨h.below, h.nodef, h.tsz, by simp [St.setB, h.bsz], by simp [St.setB, h.osz], h.tmps, h.olt, h.sok, ?_, h.owns, h.lk, ?_, h.sfr, h.fx⟩
 ·intro i cs' hcs'
  rw [iM] at hcs'
  split at hcs'
  ·rename_i hi
   obtain ⟨rfl, _⟩ := hi
   cases hcs'
   obtain ⟨ho, vs, E, hh, hr⟩ := h.box b cs hb
   refine ⟨ho, vs, E, hh, ?_⟩
   obtain ⟨hl, hg⟩ := hr.get
   refine bY.mk (by simpa using hl) fun i c' v' hc' hv' => ?_
   rw [List.getElem?_set] at hc'
   split at hc'
   ·rename_i hi
    subst hi
    split at hc'
    ·cases hc'
     rw [cell_of_row _ _ _ _ _ _ hh] at hv
     simp at hv
     rw [hv'] at hv
     cases hv
     exact hc
    ·cases hc'
   ·exact hg i c' v' hc' hv'
  ·exact h.box i cs' hcs'
 ·intro i hi
  rw [iM]
  split
  ·simp
  ·exact h.lb i hi
theorem Inv.pU (h : Inv w0 G S a w) {it : It} {c : C} {v : Value} (hv : cellV G a w it v) (hc : kY G w c v) (hb : ∀ b off s, it = .b b off s -> ∃ cs, S.dP b = some cs) : Inv w0 G (S.pU it c) a w := by
 cases it with
 | t i s => exact h.GU i (by rw [show a.tmps.getD i undef = v from hv]; exact hc)
 | b b off s =>
  obtain ⟨cs, hcs⟩ := hb b off s rfl
  simp only [St.pU, hcs]
  exact h.Qs b off hcs hv hc
theorem D7 (S : St) (it : It) (c : C) (b : Nat) (h : ∃ cs, S.dP b = some cs) : ∃ cs, (S.pU it c).dP b = some cs := by
 obtain ⟨cs, hcs⟩ := h
 cases it with
 | t i s => exact ⟨cs, hcs⟩
 | b b' off s =>
  simp only [St.pU]
  split
  ·rw [iM]
   split
   ·exact ⟨_, rfl⟩
   ·exact ⟨cs, hcs⟩
  ·exact ⟨cs, hcs⟩
theorem D6 (S : St) (it : It) (c : C) (k : Nat) : (S.pU it c).aC k = S.aC k := by
 cases it with
 | t i s => rfl
 | b b off s => simp only [St.pU]; split <;> rfl
theorem CZ (S : St) (it : It) (c : C) : (S.pU it c).tmps.length = S.tmps.length := by
 cases it with
 | t i s => simp [St.pU, St.fU]
 | b b off s => simp only [St.pU]; split <;> rfl
end loops
end Go.Abs
namespace Go.Abs
open Go.RowKit
theorem foldl_set {α β : Type} (f : β -> Nat) (g : β -> α) (d : α) : ∀ (l : List β) (init : List α) (t : Nat), (l.foldl (fun acc p => acc.set (f p) (g p)) init).length = init.length /\
  ((l.foldl (fun acc p => acc.set (f p) (g p)) init).getD t d = init.getD t d /\ (t < init.length -> ∀ p ∈ l, f p ≠ t) \/ ∃ p, p ∈ l /\ f p = t /\ (l.foldl (fun acc p => acc.set (f p) (g p)) init).getD t d = g p)
 | [], init, t => ⟨rfl, .inl ⟨rfl, fun _ p hp => by cases hp⟩⟩
 | p :: r, init, t => by
  obtain ⟨h1, h2⟩ := foldl_set f g d r (init.set (f p) (g p)) t
  simp only [List.foldl_cons]
  refine ⟨by rw [h1]; simp, ?_⟩
  rcases h2 with ⟨h2, h3⟩ | ⟨q, hq, e1, e2⟩
  ·by_cases he : f p = t
   ·by_cases hl : t < init.length
    ·refine .inr ⟨p, List.mem_cons_self, he, ?_⟩
     rw [h2, zE, List.getElem?_set, if_pos he, if_pos (by omega)]
     rfl
    ·refine .inl ⟨?_, fun hl' => absurd hl' hl⟩
     rw [h2, List.set_eq_of_length_le (by omega)]
   ·refine .inl ⟨?_, fun hl q hq => ?_⟩
    ·rw [h2, zE, List.getElem?_set, if_neg he, <- zE]
    ·rcases List.mem_cons.1 hq with rfl | hq
     ·exact he
     ·exact h3 (by simpa using hl) q hq
  ·exact .inr ⟨q, List.mem_cons_of_mem _ hq, e1, e2⟩
section loops
variable {w0 : Bs} {G : Gh} {S : St} {a : Act} {w : World}
theorem Yk (la : LA) (t : Nat) : la.base.gq t = .undef \/ ∃ p, p ∈ la.ptrs /\ p.1 = t /\ la.base.gq t = .v (.one (.ptr p.2.1 p.2.2)) := by
 have := (foldl_set (fun p : Nat × Nat × Nat => p.1) (fun p => AV.v (.one (.ptr p.2.1 p.2.2))) AV.undef la.ptrs (List.replicate la.n .undef) t).2
 rcases this with ⟨h1, _⟩ | h1
 ·left
  have e : la.base.gq t = (la.ptrs.foldl (fun acc (p : Nat × Nat × Nat) => acc.set p.1 (AV.v (.one (.ptr p.2.1 p.2.2)))) (List.replicate la.n AV.undef)).getD t .undef := rfl
  rw [e, h1, zE, List.getElem?_replicate]
  split <;> rfl
 ·exact .inr h1
theorem Ef (la : LA) (t : Nat) : (la.base.dP t = none /\ (t < la.n -> ∀ p ∈ la.boxes, p.1 ≠ t)) \/ ∃ p, p ∈ la.boxes /\ p.1 = t /\ la.base.dP t = some (List.replicate p.2 .undef) := by
 have := (foldl_set (fun p : Nat × Nat => p.1) (fun p => some (List.replicate p.2 C.undef)) none la.boxes (List.replicate la.n none) t).2
 rcases this with ⟨h1, h2⟩ | h1
 ·left
  refine ⟨?_, by simpa using h2⟩
  have e : la.base.dP t = (la.boxes.foldl (fun acc (p : Nat × Nat) => acc.set p.1 (some (List.replicate p.2 C.undef))) (List.replicate la.n none)).getD t none := rfl
  rw [e, h1, zE, List.getElem?_replicate]
  split <;> rfl
 ·exact .inr h1
theorem NE (la : LA) (t : Nat) : la.base.aC t = [] := by
 show (List.replicate la.n ([] : List O)).getD t [] = _
 rw [zE, List.getElem?_replicate]
 split <;> rfl
theorem TA (la : LA) : la.base.tmps.length = la.n /\ la.base.boxes.length = la.n /\ la.base.owns.length = la.n := by
 refine ⟨?_, ?_, ?_⟩
 ·have := (foldl_set (fun p : Nat × Nat × Nat => p.1) (fun p => AV.v (.one (.ptr p.2.1 p.2.2))) AV.undef la.ptrs (List.replicate la.n .undef) 0).1
  simpa [LA.base] using this
 ·have := (foldl_set (fun p : Nat × Nat => p.1) (fun p => some (List.replicate p.2 C.undef)) none la.boxes (List.replicate la.n none) 0).1
  simpa [LA.base] using this
 ·simp [LA.base]
def yt (la : LA) (i : Nat) : Prop := ∃ n, (i, n) ∈ la.boxes
open Classical in
theorem aaw (h : Inv w0 G S a w) {la : LA} (hn : S.tmps.length = la.n) {u : Unit} (hb : (CQ la.boxes).val S = some u) {u' : Unit} (hp : (Iq la.ptrs).val S = some u')
  (hpb : la.ptrs.all (fun p => la.boxes.any fun q => q.1 == p.2.1) = true) (roks : List (Nat × Nat)) :
  ∃ G0, Inv w0 G0 la.base a w /\ G0.bk = G.bk /\ (∀ b o, (G.S b o \/ AK G S roks b o) ↔ G0.S b o) /\ (∀ c k j, G0.ow c ≠ some (.own k j)) /\ (∀ c i, G0.ow c = some (.box i) -> G.ow c = some (.box i)) := by
 let ow0 : Nat -> Option vG := fun b => match G.ow b with
  | some (.box i) => if yt la i then some (.box i) else none
  | _ => none
 let G0 : Gh := { bk := G.bk, ov := G.ov, ow := ow0, S := fun b o => G.S b o \/ AK G S roks b o, lk := fun _ => False, lb := yt la }
 have hbox0 : ∀ c i, G0.ow c = some (.box i) -> G.ow c = some (.box i) /\ yt la i := by
  intro c i hc
  have hc' : (match G.ow c with | some (.box i) => if yt la i then some (vG.box i) else none | _ => none) = some (.box i) := hc
  split at hc'
  ·rename_i j hj
   split at hc'
   ·rename_i hin; cases hc'; exact ⟨hj, hin⟩
   ·cases hc'
  ·cases hc'
 have hnown : ∀ c k j, G0.ow c ≠ some (.own k j) := by
  intro c k j hc
  have hc' : (match G.ow c with | some (.box i) => if yt la i then some (vG.box i) else none | _ => none) = some (.own k j) := hc
  split at hc'
  ·split at hc' <;> cases hc'
  ·cases hc'
 obtain ⟨l1, l2, l3⟩ := TA la
 have hblt : ∀ i n, (i, n) ∈ la.boxes -> i < la.n := by
  intro i n hm
  obtain ⟨cs, hcs, _⟩ := qy hb i n hm
  have : i < S.boxes.length := by
   rcases Nat.lt_or_ge i S.boxes.length with hl | hl
   ·exact hl
   ·simp [St.dP, zE, zJ hl] at hcs
  rw [h.bsz, hn] at this
  exact this
 refine ⟨G0, ⟨h.below, h.nodef, by rw [h.tsz, hn, l1], by rw [l1, l2], by rw [l1, l3], ?_, ?_, ?_, ?_, ?_, fun k hk => hk.elim, ?_, fun b o hs hl => hs.elim (fun hs => h.sfr b o hs hl) fun ⟨_, _, _, _, _, _, _, _, how, _⟩ => absurd (h.kz how).1 (by omega), h.fx⟩, rfl, fun b o => Iff.rfl, hnown, fun c i hc => (hbox0 c i hc).1⟩
 ·intro i v hv
  rcases Yk la i with he | ⟨⟨i', b, off⟩, hm, rfl, he⟩
  ·rw [he]; trivial
  ·rw [he]
   have hr := h.tmps _ v hv
   rw [Ip hp _ b off hm] at hr
   have := List.all_eq_true.1 hpb _ hm
   obtain ⟨⟨b', n⟩, hm', hbb⟩ := List.any_eq_true.1 this
   simp at hbb
   exact ⟨⟨n, hbb ▸ hm'⟩, hr.2⟩
 ·intro b x hx
  cases x with
  | box i => exact h.olt _ _ (hbox0 b i hx).1
  | own k j => exact absurd hx (hnown b k j)
 ·intro b o hs
  refine ⟨?_, fun i hi => ?_⟩
  ·rcases hs with hs | ⟨k, j, _, _, _, _, _, _, how, _⟩
   ·exact (h.sok b o hs).1
   ·exact (h.olt _ _ how).2
  ·have hi' := (hbox0 b i hi).1
   rcases hs with hs | ⟨k, j, _, _, _, _, _, _, how, _⟩
   ·exact (h.sok b o hs).2 i hi'
   ·rw [how] at hi'; cases hi'
 ·intro i cs hcs
  rcases Ef la i with ⟨he, _⟩ | ⟨⟨i', n⟩, hm, rfl, he⟩
  ·rw [he] at hcs; cases hcs
  ·rw [he] at hcs
   cases hcs
   obtain ⟨cs0, hcs0, hl0⟩ := qy hb _ n hm
   obtain ⟨ho, vs, E, hh, hr⟩ := h.box _ cs0 hcs0
   refine ⟨?_, vs, E, hh, ?_⟩
   ·show (match G.ow (G.bk i') with | some (.box i) => if yt la i then some (vG.box i) else none | _ => none) = _
    rw [ho]
    exact if_pos ⟨n, hm⟩
   ·have hlen := hr.length
    refine bY.mk (by simp; omega) fun j c v hc hv => ?_
    have : c = .undef := (List.mem_replicate.1 (zG hc)).2
    subst this
    exact hr.one v (zG hv)
 ·intro k j
  rw [NE]
  trivial
 ·intro i hi
  obtain ⟨n, hm⟩ := hi
  rcases Ef la i with ⟨_, he⟩ | ⟨p, _, _, he⟩
  ·exact absurd rfl (he (hblt i n hm) _ hm)
  ·rw [he]; simp
theorem EN {x : Nat} {r : List Nat} (h : zW (x :: r) = true) : x ∉ r /\ zW r = true := by
 simp only [zW, zI, Bool.not_eq_true', List.any_eq_false, beq_iff_eq] at h
 exact ⟨fun hx => h.1 x hx rfl, h.2⟩
theorem Y7 (h : Inv w0 G S a w) {G1 : Gh} (hbk : G.bk = G1.bk) {it : It} {x : it.sr.den} {v : Value} {lab : Nat -> Prop} (hv : cellV G1 a w it v) (hok : ad9 G.S w it x v lab)
  (hlab : ∀ c, lab c -> w0.w.heap.size <= c /\ c < w.heap.size /\ (∀ i, G.ow c ≠ some (.box i)) /\ ∀ k j, G.ow c ≠ some (.own k j)) (hbx : ∀ b off s, it = .b b off s -> ∃ cs, S.dP b = some cs)
  (hk : ∀ key, key ∈ dA [it] -> key < S.tmps.length /\ S.aC key = []) :
  ∃ G', Inv w0 G' (S.Io it x) a w /\ G'.bk = G.bk /\ G'.S = G.S /\ (∀ c y, G'.ow c = some y -> G.ow c = some y \/ (lab c /\ ∀ i, y ≠ .box i)) /\ (∀ b, (∃ cs, S.dP b = some cs) -> ∃ cs, (S.Io it x).dP b = some cs) /\
   (∀ key, key ∉ dA [it] -> (S.Io it x).aC key = S.aC key) /\ (S.Io it x).tmps.length = S.tmps.length := by
 have hv' : cellV G a w it v := by
  cases it with
  | t i s => exact hv
  | b b off s => show w.cell? ⟨G.bk b, off, none⟩ = _; rw [hbk]; exact hv
 unfold ad9 at hok
 unfold St.Io
 generalize hsr : it.sr = sr at *
 unfold aaI at hok
 cases sr with
 | ro t =>
  obtain ⟨d, hd, hrep⟩ := hok
  have hdo : dOf t x = .d d := by unfold dOf; rw [hd]
  simp only [hdo]
  exact ⟨G, h.pU hv' (c := .d d) hrep hbx, rfl, rfl, fun c y hc => .inl hc, fun b hb => D7 S it _ b hb, fun key _ => D6 S it _ key, CZ S it _⟩
 | own t deep m key =>
  have hkey : key ∈ dA [it] := by simp [dA, hsr]
  obtain ⟨hkl, hkO⟩ := hk key hkey
  classical
  obtain ⟨G', h', hm, hlk, hov, hbk', hS', how'⟩ := h.rJ key [.own t x deep m] (fun _ => v) (fun c => if lab c then some 0 else none) hkO hkl (by simp)
   (fun c j hc => by
    by_cases hl : lab c
    ·obtain ⟨q1, q2, q3, q4⟩ := hlab c hl
     exact ⟨q1, q2, q3, fun k' j' _ _ _ _ hb => absurd hb (q4 k' j')⟩
    ·rw [if_neg hl] at hc; cases hc)
   (fun j => by
    cases j with
    | zero =>
     show OwT w G.S deep m t x v _
     exact OwT.move hok (fun b o hs => ⟨hs, rfl⟩) (fun b hb => ⟨if_pos hb, rfl⟩) (fun _ _ _ _ _ o hs => .inl hs)
    | succ j => trivial)
  have h1 : Inv w0 G' ((S.bM key [.own t x deep m]).pU it (.own key 0)) a w := by
   refine h'.pU (v := v) ?_ ⟨hlk, (hov 0).symm, (OwT.ow hok).one⟩ fun b off s he => hbx b off s he
   cases it with
   | t i s => exact hv'
   | b b off s => show w.cell? ⟨G'.bk b, off, none⟩ = _; rw [hbk']; exact hv'
  refine ⟨G', h1, hbk', hS', fun c y hc => ?_, fun b hb => D7 _ it _ b hb, fun key' hne => ?_, ?_⟩
  ·rw [how'] at hc
   by_cases hl : lab c
   ·rw [if_pos hl] at hc
    refine .inr ⟨hl, fun i e => ?_⟩
    rw [e] at hc; cases hc
   ·rw [if_neg hl] at hc; exact .inl hc
  ·show ((S.bM key _).pU it _).aC key' = _
   rw [D6, aY, if_neg (fun e : key = key' /\ _ => hne (e.1 ▸ hkey))]
  ·show ((S.bM key _).pU it _).tmps.length = _
   rw [CZ]; rfl
 | part t key =>
  obtain ⟨xs, n⟩ := x
  have hkey : key ∈ dA [it] := by simp [dA, hsr]
  obtain ⟨hkl, hkO⟩ := hk key hkey
  have hone : v.oneCell' = true := by
   rcases hok with ⟨rfl, _⟩ | ⟨b, cap, arr, E, vs, fps, rfl, _⟩ <;> rfl
  classical
  obtain ⟨G', h', hm, hlk, hov, hbk', hS', how'⟩ := h.rJ key [.part t xs n] (fun _ => v) (fun c => if lab c then some 0 else none) hkO hkl (by simp)
   (fun c j hc => by
    by_cases hl : lab c
    ·obtain ⟨q1, q2, q3, q4⟩ := hlab c hl
     exact ⟨q1, q2, q3, fun k' j' _ _ _ _ hb => absurd hb (q4 k' j')⟩
    ·rw [if_neg hl] at hc; cases hc)
   (fun j => by
    cases j with
    | zero =>
     show gu w G.S t xs n v _
     exact gu.move hok (fun b hb => ⟨if_pos hb, rfl⟩) (fun _ _ _ hs => hs)
    | succ j => trivial)
  have h1 : Inv w0 G' ((S.bM key [.part t xs n]).pU it (.own key 0)) a w := by
   refine h'.pU (v := v) ?_ ⟨hlk, (hov 0).symm, hone⟩ fun b off s he => hbx b off s he
   cases it with
   | t i s => exact hv'
   | b b off s => show w.cell? ⟨G'.bk b, off, none⟩ = _; rw [hbk']; exact hv'
  refine ⟨G', h1, hbk', hS', fun c y hc => ?_, fun b hb => D7 _ it _ b hb, fun key' hne => ?_, ?_⟩
  ·rw [how'] at hc
   by_cases hl : lab c
   ·rw [if_pos hl] at hc
    refine .inr ⟨hl, fun i e => ?_⟩
    rw [e] at hc; cases hc
   ·rw [if_neg hl] at hc; exact .inl hc
  ·show ((S.bM key _).pU it _).aC key' = _
   rw [D6, aY, if_neg (fun e : key = key' /\ _ => hne (e.1 ▸ hkey))]
  ·show ((S.bM key _).pU it _).tmps.length = _
   rw [CZ]; rfl
end loops
end Go.Abs
namespace Go.Abs
open Go.RowKit
section loops
variable {w0 : Bs} {G : Gh} {S : St} {a : Act} {w : World}
theorem um (it : It) (r : List It) : dA (it :: r) = dA [it] ++ dA r := by
 simp only [dA]
 split <;> rfl
theorem VX {G1 : Gh} {roks used : List (Nat × Nat)} {S1 : St} (h1 : Inv w0 G1 S1 a w) (h : Inv w0 G S a w) (hbk : G.bk = G1.bk) (hS : ∀ b o, (G1.S b o \/ AK G1 S1 roks b o) ↔ G.S b o)
  (hown : ∀ b k j, G.ow b = some (.own k j) -> ∃ k' j', (k', j') ∈ used /\ G1.ow b = some (.own k' j')) (hbox : ∀ b i, G.ow b = some (.box i) -> G1.ow b = some (.box i))
  {it : It} {y : it.sr.den} {c : C} (hc : (cAt it).val S1 = some c) (hy : (X7 it.sr c).val S1 = some y) (hro : ∀ t, it.sr = .ro t -> ∀ k j, c = .own k j -> (k, j) ∈ roks)
  (hnew : it.sr.live = true -> ∀ k j, c = .own k j -> (k, j) ∉ used /\ (k, j) ∉ roks) (hk : ∀ key, key ∈ dA [it] -> key < S.tmps.length /\ S.aC key = [])
  (hbx : ∀ b off s, it = .b b off s -> ∃ cs, S.dP b = some cs) :
  ∃ G2, Inv w0 G2 (S.Io it y) a w /\ G2.bk = G1.bk /\ (∀ b o, (G1.S b o \/ AK G1 S1 roks b o) ↔ G2.S b o) /\ (∀ b k j, G2.ow b = some (.own k j) -> ∃ k' j', (k', j') ∈ used ++ aI [c] /\ G1.ow b = some (.own k' j')) /\
   (∀ b i, G2.ow b = some (.box i) -> G1.ow b = some (.box i)) /\ (∀ b, (∃ cs, S.dP b = some cs) -> ∃ cs, (S.Io it y).dP b = some cs) /\ (∀ key, key ∉ dA [it] -> (S.Io it y).aC key = S.aC key) /\ (S.Io it y).tmps.length = S.tmps.length := by
 obtain ⟨v, hv, hcr⟩ := ab1 h1 hc
 have hok := abI h1 hy hcr (S0 := G.S) roks (fun b o hs => (hS b o).1 hs) hro (fun k j e hsr b o hs hb => by
  rcases (hS b o).2 hs with hs | ⟨k', j', _, _, _, _, hmem, _, how, _⟩
  ·exact hs
  ·rw [hb] at how
   cases how
   exact absurd hmem (hnew hsr k j e).2)
 have hex : ∃ lab : Nat -> Prop, ad9 G.S w it y v lab /\ ∀ b, lab b -> ∃ k j, c = .own k j /\ G1.ow b = some (.own k j) /\ it.sr.live = true := by
  have key : ∀ (sr : Sr) (z : sr.den), aaI G.S w sr z v (fun b => ∃ k j, c = .own k j /\ G1.ow b = some (.own k j)) ->
    ∃ lab : Nat -> Prop, aaI G.S w sr z v lab /\ ∀ b, lab b -> ∃ k j, c = .own k j /\ G1.ow b = some (.own k j) /\ sr.live = true := by
   intro sr z hz
   cases sr with
   | ro t => exact ⟨fun _ => False, hz, fun _ hb => hb.elim⟩
   | own t deep m key => exact ⟨_, hz, fun b ⟨k, j, e1, e2⟩ => ⟨k, j, e1, e2, rfl⟩⟩
   | part t key => exact ⟨_, hz, fun b ⟨k, j, e1, e2⟩ => ⟨k, j, e1, e2, rfl⟩⟩
  exact key it.sr y hok
 obtain ⟨lab, hit, hlab⟩ := hex
 obtain ⟨G2, q1, q2, q3, q4, q5, q6, q7⟩ := Y7 h hbk hv hit (fun b hb => by
  obtain ⟨k, j, e1, e2, hsr⟩ := hlab b hb
  have hlt := h1.kz e2
  refine ⟨hlt.1, hlt.2, fun i hi => ?_, fun k' j' hi => ?_⟩
  ·rw [hbox b i hi] at e2; cases e2
  ·obtain ⟨k2, j2, hm, e3⟩ := hown b k' j' hi
   rw [e2] at e3
   cases e3
   exact (hnew hsr k j e1).1 hm) hbx hk
 refine ⟨G2, q1, q2.trans hbk, fun b o => by rw [q3]; exact hS b o, fun b k j hb => ?_, fun b i hb => ?_, q5, q6, q7⟩
 ·rcases q4 b _ hb with hb | ⟨hb, _⟩
  ·obtain ⟨k', j', hm, e⟩ := hown b k j hb
   exact ⟨k', j', List.mem_append_left _ hm, e⟩
  ·obtain ⟨k', j', e1, e2, _⟩ := hlab b hb
   exact ⟨k', j', List.mem_append_right _ (by rw [e1]; simp [aI]), e2⟩
 ·rcases q4 b _ hb with hb | ⟨_, hb⟩
  ·exact hbox b i hb
  ·exact absurd rfl (hb i)
theorem MP {G1 : Gh} {roks : List (Nat × Nat)} {S1 : St} (h1 : Inv w0 G1 S1 a w) : ∀ (l : List It) (x : Its l) (p : List (Nat × Nat) × List (Nat × Nat)) (used : List (Nat × Nat)) {G : Gh} {S : St}, Inv w0 G S a w -> G.bk = G1.bk ->
  (∀ b o, (G1.S b o \/ AK G1 S1 roks b o) ↔ G.S b o) -> (∀ b k j, G.ow b = some (.own k j) -> ∃ k' j', (k', j') ∈ used /\ G1.ow b = some (.own k' j')) -> (∀ b i, G.ow b = some (.box i) -> G1.ow b = some (.box i)) ->
  (Wv l).val S1 = some x -> (keysOf l).val S1 = some p -> nodupB p.1 = true -> (∀ q, q ∈ p.1 -> q ∉ used /\ q ∉ roks) -> (∀ q, q ∈ p.2 -> q ∈ roks) ->
  zW (dA l) = true -> (∀ key, key ∈ dA l -> key < S.tmps.length /\ S.aC key = []) -> (∀ b off s, It.b b off s ∈ l -> ∃ cs, S.dP b = some cs) ->
  ∃ G', Inv w0 G' (S.VS l x) a w /\ G'.bk = G1.bk
 | [], x, p, used, G, S, h, hbk, _, _, _, _, _, _, _, _, _, _, _ => ⟨G, h, hbk⟩
 | it :: r, x, p, used, G, S, h, hbk, hS, hown, hbox, hx, hp, hnd, hq1, hq2, hnk, hkO, hbx => by
  simp only [keysOf, Rd.ak, zB] at hp
  obtain ⟨c, hc, p', hp', hp⟩ := hp
  have hro : ∀ t, it.sr = .ro t -> ∀ k j, c = .own k j -> (k, j) ∈ roks := by
   intro t hsr k j e
   rw [hsr] at hp
   simp only [Rd.val, zD] at hp
   subst hp
   subst e
   exact hq2 _ (by simp [aI])
  have hnew : it.sr.live = true -> ∀ k j, c = .own k j -> (k, j) ∉ used /\ (k, j) ∉ roks := by
   intro hl k j e
   cases hsr : it.sr with
   | ro t => rw [hsr] at hl; cases hl
   | own t deep m key =>
    rw [hsr] at hp
    simp only [Rd.val, zD] at hp
    subst hp
    subst e
    exact hq1 _ (by simp [aI])
   | part t key =>
    rw [hsr] at hp
    simp only [Rd.val, zD] at hp
    subst hp
    subst e
    exact hq1 _ (by simp [aI])
  -- the rest's keys
  have hrest : nodupB p'.1 = true /\ (∀ q, q ∈ p'.1 -> q ∉ used ++ aI [c] /\ q ∉ roks) /\ (∀ q, q ∈ p'.2 -> q ∈ roks) := by
   cases hsr : it.sr with
   | ro t =>
    rw [hsr] at hp
    simp only [Rd.val, zD] at hp
    subst hp
    refine ⟨hnd, fun q hq => ⟨fun hm => ?_, (hq1 q hq).2⟩, fun q hq => hq2 q (List.mem_append_right _ hq)⟩
    rcases List.mem_append.1 hm with hm | hm
    ·exact (hq1 q hq).1 hm
    ·exact (hq1 q hq).2 (hq2 q (List.mem_append_left _ hm))
   | own t deep m key =>
    rw [hsr] at hp
    simp only [Rd.val, zD] at hp
    subst hp
    have hcase : nodupB p'.1 = true /\ ∀ q, q ∈ aI [c] -> q ∉ p'.1 := by
     cases c with
     | own k j =>
      have hnd' : nodupB ((k, j) :: p'.1) = true := hnd
      obtain ⟨e1, e2⟩ := jr hnd'
      exact ⟨e2, fun q hq => by simp [aI] at hq; rw [hq]; exact e1⟩
     | undef => exact ⟨hnd, fun q hq => by cases hq⟩
     | d x => exact ⟨hnd, fun q hq => by cases hq⟩
     | nil => exact ⟨hnd, fun q hq => by cases hq⟩
     | ptr b off => exact ⟨hnd, fun q hq => by cases hq⟩
    refine ⟨hcase.1, fun q hq => ⟨fun hm => ?_, (hq1 q (List.mem_append_right _ hq)).2⟩, hq2⟩
    rcases List.mem_append.1 hm with hm | hm
    ·exact (hq1 q (List.mem_append_right _ hq)).1 hm
    ·exact hcase.2 q hm hq
   | part t key =>
    rw [hsr] at hp
    simp only [Rd.val, zD] at hp
    subst hp
    have hcase : nodupB p'.1 = true /\ ∀ q, q ∈ aI [c] -> q ∉ p'.1 := by
     cases c with
     | own k j =>
      have hnd' : nodupB ((k, j) :: p'.1) = true := hnd
      obtain ⟨e1, e2⟩ := jr hnd'
      exact ⟨e2, fun q hq => by simp [aI] at hq; rw [hq]; exact e1⟩
     | undef => exact ⟨hnd, fun q hq => by cases hq⟩
     | d x => exact ⟨hnd, fun q hq => by cases hq⟩
     | nil => exact ⟨hnd, fun q hq => by cases hq⟩
     | ptr b off => exact ⟨hnd, fun q hq => by cases hq⟩
    refine ⟨hcase.1, fun q hq => ⟨fun hm => ?_, (hq1 q (List.mem_append_right _ hq)).2⟩, hq2⟩
    rcases List.mem_append.1 hm with hm | hm
    ·exact (hq1 q (List.mem_append_right _ hq)).1 hm
    ·exact hcase.2 q hm hq
  have hk1 : ∀ key, key ∈ dA [it] -> key < S.tmps.length /\ S.aC key = [] := fun key hm => hkO key (by rw [um]; exact List.mem_append_left _ hm)
  have hbx1 : ∀ b off s, it = .b b off s -> ∃ cs, S.dP b = some cs := fun b off s e => hbx b off s (e ▸ List.mem_cons_self)
  cases r with
  | nil =>
   have hx' : (Z8 it).val S1 = some x := hx
   simp only [Z8, Rd.ak, zB] at hx'
   obtain ⟨c', hc', hy⟩ := hx'
   rw [hc] at hc'
   cases hc'
   obtain ⟨G2, q1, q2, _⟩ := VX h1 h hbk hS hown hbox hc hy hro hnew hk1 hbx1
   exact ⟨G2, q1, q2⟩
  | cons it2 r =>
   simp only [Wv, Rd.ak, zB, Rd.val, zD] at hx
   obtain ⟨x1, hx1, x2, hx2, rfl⟩ := hx
   simp only [Z8, Rd.ak, zB] at hx1
   obtain ⟨c', hc', hy⟩ := hx1
   rw [hc] at hc'
   cases hc'
   obtain ⟨G2, q1, q2, q3, q4, q5, q6, q7, q8⟩ := VX h1 h hbk hS hown hbox hc hy hro hnew hk1 hbx1
   have hnd2 : zW (dA (it2 :: r)) = true /\ ∀ key, key ∈ dA [it] -> key ∉ dA (it2 :: r) := by
    rw [um] at hnk
    cases hsr : it.sr with
    | ro t =>
     have : dA [it] = [] := by simp [dA, hsr]
     rw [this] at hnk ⊢
     exact ⟨hnk, fun key hm => by cases hm⟩
    | own t deep m key =>
     have : dA [it] = [key] := by simp [dA, hsr]
     rw [this] at hnk ⊢
     obtain ⟨e1, e2⟩ := EN hnk
     exact ⟨e2, fun key' hm => by simp at hm; rw [hm]; exact e1⟩
    | part t key =>
     have : dA [it] = [key] := by simp [dA, hsr]
     rw [this] at hnk ⊢
     obtain ⟨e1, e2⟩ := EN hnk
     exact ⟨e2, fun key' hm => by simp at hm; rw [hm]; exact e1⟩
   refine MP h1 (it2 :: r) x2 p' (used ++ aI [c]) q1 q2 q3 q4 q5 hx2 hp' hrest.1 hrest.2.1 hrest.2.2 hnd2.1 (fun key hm => ?_) fun b off s hm => q6 b (hbx b off s (List.mem_cons_of_mem _ hm))
   have hne : key ∉ dA [it] := fun hm' => hnd2.2 key hm' hm
   have := hkO key (by rw [um]; exact List.mem_append_right _ hm)
   rw [q7 key hne, q8]
   exact this
theorem NG : ∀ {l : List (Nat × Nat × Nat)} {u : Unit}, (WE l).val S = some u -> ∀ i b off, (i, b, off) ∈ l -> ∃ k j cs, S.gq i = .v (.one (.own k j)) /\ S.dP b = some cs /\ cs[off]? = some (.own k j)
 | [], _, _, i, b, off, hm => (by cases hm)
 | (i', b', off') :: r, u, h, i, b, off, hm => by
  simp only [WE, Rd.val] at h
  split at h
  case h_2 => cases h
  rename_i k j ht
  simp only [Rd.val] at h
  split at h
  case h_2 => cases h
  rename_i cs hb
  split at h
  case h_2 => cases h
  rename_i k' j' ho
  split at h
  case isFalse => cases h
  rename_i he
  obtain ⟨rfl, rfl⟩ := he
  rcases List.mem_cons.1 hm with e | hm
  ·cases e; exact ⟨k, j, cs, ht, hb, ho⟩
  ·exact NG h i b off hm
theorem uh {G' : Gh} : ∀ {l : List (Nat × Nat × Nat)} {S' : St}, Inv w0 G' S' a w ->
  (∀ i b off, (i, b, off) ∈ l -> ∃ (vs : List Value) (E : TypeId), w.heap[G'.bk b]? = some (.cells vs.toArray E (0, 0)) /\ vs[off]? = some (a.tmps.getD i undef)) -> Inv w0 G' (S'.Dw l) a w
 | [], S', h, _ => h
 | (i, b, off) :: r, S', h, hv => by
  have hr := fun i' b' off' hm => hv i' b' off' (List.mem_cons_of_mem _ hm)
  unfold St.Dw
  split
  ·rename_i cs hb
   split
   ·rename_i k j ho
    refine uh (h.GU i ?_) hr
    obtain ⟨vs, E, h1, h2⟩ := hv i b off List.mem_cons_self
    obtain ⟨_, vs', E', h3, h4⟩ := h.box b cs hb
    rw [h1] at h3
    have hvv : vs = vs' := by
     injection h3 with h3
     injection h3 with h3 _ _
     simpa using congrArg Array.toList h3
    subst hvv
    obtain ⟨_, hg⟩ := h4.get
    exact hg off _ _ ho h2
   ·exact uh h hr
  ·exact uh h hr
theorem ND : ∀ {l : List (Nat × Nat × Nat × Nat)} {u : Unit}, (WC l).val S = some u -> ∀ b' off' b off, (b', off', b, off) ∈ l -> ∃ k j cs' cs, S.dP b' = some cs' /\ S.dP b = some cs /\ cs'[off']? = some (.own k j) /\ cs[off]? = some (.own k j)
 | [], _, _, b', off', b, off, hm => (by cases hm)
 | (b1', off1', b1, off1) :: r, u, h, b', off', b, off, hm => by
  simp only [WC, Rd.val] at h
  split at h
  case h_2 => cases h
  rename_i cs' hb'
  simp only [Rd.val] at h
  split at h
  case h_2 => cases h
  rename_i cs hb
  split at h
  case h_2 => cases h
  rename_i k' j' k j ho' ho
  split at h
  case isFalse => cases h
  rename_i he
  obtain ⟨rfl, rfl⟩ := he
  rcases List.mem_cons.1 hm with e | hm
  ·cases e; exact ⟨k, j, cs', cs, hb', hb, ho', ho⟩
  ·exact ND h b' off' b off hm
theorem ug {G' : Gh} : ∀ {l : List (Nat × Nat × Nat × Nat)} {S' : St}, Inv w0 G' S' a w ->
  (∀ b' off' b off, (b', off', b, off) ∈ l -> ∃ v, w.cell? ⟨G'.bk b', off', none⟩ = some v /\ w.cell? ⟨G'.bk b, off, none⟩ = some v) -> Inv w0 G' (S'.Dv l) a w
 | [], S', h, _ => h
 | (b', off', b, off) :: r, S', h, hv => by
  have hr := fun b1 o1 b2 o2 hm => hv b1 o1 b2 o2 (List.mem_cons_of_mem _ hm)
  unfold St.Dv
  split
  ·rename_i cs' cs hb' hb
   split
   ·rename_i k j ho
    obtain ⟨v, h1, h2⟩ := hv b' off' b off List.mem_cons_self
    obtain ⟨_, vs, E, h3, h4⟩ := h.box b cs hb
    obtain ⟨hl, hg⟩ := h4.get
    rw [cell_of_row _ _ _ _ _ _ h3] at h2
    exact ug (h.Qs b' off' hb' h1 (hg off _ v ho (by simpa using h2))) hr
   ·exact ug h hr
  ·exact ug h hr
theorem Jd (h : Inv w0 G S a w) {la : LA} {x : Its la.its} (hx : la.get.val S = some x) : ∃ G', Inv w0 G' (la.put x) a w := by
 simp only [LA.get, Rd.val] at hx
 split at hx
 case isFalse => cases hx
 rename_i hg
 obtain ⟨hn, hnk, hkl, hpb, hib⟩ := hg
 simp only [Rd.ak, zB] at hx
 obtain ⟨u, hb, u', hp, ua, hal, ub, hbl, p, hk, hx⟩ := hx
 split at hx
 case isFalse => cases hx
 rename_i hc
 rw [zI] at hc
 obtain ⟨G0, h0, e1, e2, e3, e4⟩ := aaw h hn hb hp hpb p.2
 suffices hs : ∃ G', Inv w0 G' (la.base.VS la.its x) a w /\ G'.bk = G.bk by
  obtain ⟨G', h', hbk⟩ := hs
  refine ⟨G', ug (uh h' fun i b off hm => ?_) fun b' off' b off hm => ?_⟩
  case refine_2 =>
   obtain ⟨k, j, cs', cs, k1, k2, k3, k4⟩ := ND hbl b' off' b off hm
   obtain ⟨_, vs', E', q1, q2⟩ := h.box b' cs' k1
   obtain ⟨_, vs, E, q3, q4⟩ := h.box b cs k2
   obtain ⟨hl', hg'⟩ := q2.get
   obtain ⟨hl, hg⟩ := q4.get
   have hlo' : off' < vs'.length := by rw [<- hl']; exact (zC.1 k3).1
   have hlo : off < vs.length := by rw [<- hl]; exact (zC.1 k4).1
   have e1 := hg' off' _ _ k3 (zF hlo')
   have e2 := hg off _ _ k4 (zF hlo)
   refine ⟨G.ov k j, ?_, ?_⟩
   ·rw [hbk, cell_of_row _ _ _ _ _ _ q1, List.getElem?_toArray, zF hlo', e1.2.1]
   ·rw [hbk, cell_of_row _ _ _ _ _ _ q3, List.getElem?_toArray, zF hlo, e2.2.1]
  obtain ⟨k, j, cs, k1, k2, k3⟩ := NG hal i b off hm
  obtain ⟨_, vs, E, k4, k5⟩ := h.box b cs k2
  refine ⟨vs, E, by rw [hbk]; exact k4, ?_⟩
  have hr : iE G w (.v (.one (.own k j))) (a.tmps.getD i undef) := by rw [<- k1]; exact h.gq i
  obtain ⟨hl, hg⟩ := k5.get
  have hlo : off < vs.length := by rw [<- hl]; exact (zC.1 k3).1
  have := hg off _ _ k3 (zF hlo)
  rw [zF hlo, this.2.1, <- hr.2.1]
 refine MP h la.its x p [] h0 e1 e2 (fun b k j hh => absurd hh (e3 b k j)) e4 hx hk hc.1 (fun q hq => ⟨by simp, fun hm => ?_⟩) (fun q hq => hq) hnk (fun key hm => ?_) fun b off s hm => ?_
 ·have := List.all_eq_true.1 hc.2 q hq
  simp only [Bool.not_eq_true', List.any_eq_false, zI, beq_iff_eq, not_and] at this
  exact this q hm rfl rfl
 ·have := List.all_eq_true.1 hkl key hm
  rw [(TA la).1]
  exact ⟨by simpa using this, NE la key⟩
 ·have := List.all_eq_true.1 hib _ hm
  simp only at this
  obtain ⟨⟨b', n⟩, hm', hbb⟩ := List.any_eq_true.1 this
  simp at hbb
  subst hbb
  obtain ⟨cs, hcs, _⟩ := qy hb b' n hm'
  have hlt : b' < la.n := by
   have : b' < S.boxes.length := by
    rcases Nat.lt_or_ge b' S.boxes.length with hl | hl
    ·exact hl
    ·simp [St.dP, zE, zJ hl] at hcs
   rw [h.bsz, hn] at this
   exact this
  rcases Ef la b' with ⟨_, he⟩ | ⟨q, _, _, he⟩
  ·exact absurd rfl (he hlt _ hm')
  ·exact ⟨_, he⟩
end loops
theorem DI {X ρ : Type} {f : X -> Option (X ⊕ ρ)} : ∀ {n : Nat} {x : X} {r : ρ}, iter f n x = some r -> ∀ {m : Nat} {r' : ρ}, iter f m x = some r' -> r = r'
 | 0, x, r, h, _, _, _ => by cases h
 | n + 1, x, r, h, 0, r', h' => by cases h'
 | n + 1, x, r, h, m + 1, r', h' => by
  simp only [iter] at h h'
  split at h
  ·cases h
  ·rename_i y hy
   rw [hy] at h'
   exact DI h h'
  ·rename_i r0 hy
   rw [hy] at h'
   simp only [zD] at h h'
   rw [<- h, <- h']
theorem lJ {X ρ : Type} {f : X -> Option (X ⊕ ρ)} {x : X} {r : ρ} (h : ah f x = some r) : ∃ n, iter f n x = some r := by
 unfold ah at h
 split at h
 ·rename_i hh
  simp only [zD] at h
  have := hh.choose_spec.choose_spec
  rw [h] at this
  exact ⟨_, this⟩
 ·cases h
theorem aH {X ρ : Type} (f : X -> Option (X ⊕ ρ)) (x : X) : ah f x = match f x with
  | none => none
  | some (.inl y) => ah f y
  | some (.inr r) => some r := by
 have up : ∀ {y : X} {r : ρ} {n : Nat}, iter f n y = some r -> ah f y = some r := by
  intro y r n hn
  have hh : ∃ n r, iter f n y = some r := ⟨n, r, hn⟩
  unfold ah
  rw [dif_pos hh]
  exact congrArg some (DI hh.choose_spec.choose_spec hn)
 have none_of : ∀ {y : X}, (∀ n r, iter f n y ≠ some r) -> ah f y = none := by
  intro y hy
  unfold ah
  rw [dif_neg]
  rintro ⟨n, r, h⟩
  exact hy n r h
 split
 ·rename_i hf
  refine none_of fun n r hn => ?_
  cases n with
  | zero => cases hn
  | succ n => simp only [iter, hf] at hn; cases hn
 ·rename_i y hf
  cases hl : ah f y with
  | some r =>
   obtain ⟨n, hn⟩ := lJ hl
   exact up (n := n + 1) (by simp only [iter, hf]; exact hn)
  | none =>
   refine none_of fun n r hn => ?_
   cases n with
   | zero => cases hn
   | succ n =>
    simp only [iter, hf] at hn
    rw [up hn] at hl
    cases hl
 ·rename_i r hf
  exact up (n := 1) (by simp only [iter, hf])
end Go.Abs
namespace Go.Abs
open Go.RowKit
def Ex.up : Ex -> Exit
 | .normal => .normal
 | .exit id => .exit id
 | .ret => .ret
section code
variable {P : Program} {w0 : Bs} {E : Env} {an : List (Nat × LA)}
theorem UN {c : Code} {ρ : Type} {r : ρ} {la : LA} {f : Its la.its -> Option (Its la.its ⊕ ρ)} {n0 : Nat} {x0 : Its la.its} (hn0 : iter f n0 x0 = some r) {G0 : Gh} {a : Act} {w : World} (h0 : Inv w0 G0 (la.put x0) a w)
  {k : Ex -> St -> Option ρ} {Q : Exit -> Act -> World -> Prop}
  (hround : ∀ (x : Its la.its) (res : Its la.its ⊕ ρ) (a : Act) (w : World) (G : Gh), f x = some res -> Inv w0 G (la.put x) a w -> ∀ Q' : Exit -> Act -> World -> Prop, (∀ y a' w' G', res = .inl y -> Inv w0 G' (la.put y) a' w' -> Q' .normal a' w') ->
   (∀ (r : ρ) (e : Ex) S' a' w' G', res = .inr r -> e ≠ .normal -> k e S' = some r -> Inv w0 G' S' a' w' -> Q' e.up a' w') -> c.wp P Q' a w)
  (hQ : ∀ e S' a' w' G', k e S' = some r -> Inv w0 G' S' a' w' -> Q e.up a' w') : (Code.loop c).wp P Q a w := by
 let J : Nat -> Act -> World -> Prop := fun n a w => ∃ (x : Its la.its) (G : Gh), iter f n x = some r /\ Inv w0 G (la.put x) a w
 classical
 have least : ∀ {a : Act} {w : World}, (∃ n, J n a w) -> ∃ n, J n a w /\ ∀ m, J m a w -> n <= m := by
  intro a w ⟨n, hn⟩
  have key : ∀ n, J n a w -> ∃ n, J n a w /\ ∀ m, J m a w -> n <= m := by
   intro n
   induction n using Nat.strongRecOn with
   | _ n ih =>
    intro hn
    by_cases hex : ∃ m, m < n /\ J m a w
    ·obtain ⟨m, hlt, hm'⟩ := hex
     exact ih m hlt hm'
    ·refine ⟨n, hn, fun m hm' => ?_⟩
     rcases Nat.lt_or_ge m n with hl | hl
     ·exact absurd ⟨m, hl, hm'⟩ hex
     ·exact hl
  exact key n hn
 refine wp_loop (fun a w => ∃ n, J n a w) (fun a w => if hh : ∃ n, J n a w then (least hh).choose else 0) ⟨n0, x0, G0, hn0, h0⟩ ?_
 intro a1 w1 hI
 obtain ⟨hJ, hmin⟩ := (least hI).choose_spec
 rw [dif_pos hI]
 generalize (least hI).choose = n at hJ hmin
 obtain ⟨x, G1, hit, h1⟩ := hJ
 cases n with
 | zero => cases hit
 | succ n =>
  simp only [iter] at hit
  split at hit
  ·cases hit
  ·rename_i y hy
   refine hround x _ a1 w1 G1 hy h1 _ (fun z a' w' G' hz h' => ?_) (fun r' e S' a' w' G' hr' _ _ _ => by cases hr')
   cases hz
   have hI' : ∃ n, J n a' w' := ⟨n, y, G', hit, h'⟩
   show (∃ n, J n a' w') /\ _
   refine ⟨hI', ?_⟩
   rw [dif_pos hI']
   have := (least hI').choose_spec.2 n ⟨y, G', hit, h'⟩
   omega
  ·rename_i r0 hy
   simp only [zD] at hit
   subst hit
   refine hround x _ a1 w1 G1 hy h1 _ (fun z a' w' G' hz h' => by cases hz) (fun r' e S' a' w' G' hr' hne hk h' => ?_)
   cases hr'
   cases e with
   | normal => exact absurd rfl hne
   | exit id => exact hQ (.exit id) S' a' w' G' hk h'
   | ret => exact hQ .ret S' a' w' G' hk h'
theorem jI.split {w : World} {S : Nat -> Nat -> Prop} {dp : Bool} {t : Ty} {xs : List t.den} {cells : List Value} {lab : Nat -> Prop} (h : jI w S dp t xs cells lab) {m : Nat} (hm : m <= xs.length) :
  ∃ lab1 lab2 : Nat -> Prop, (∀ c, lab1 c -> lab c) /\ (∀ c, lab2 c -> lab c) /\ (∀ c, lab1 c -> lab2 c -> False) /\ jI w S dp t (xs.take m) (cells.take (m * t.size)) lab1 /\ jI w S dp t (xs.drop m) (cells.drop (m * t.size)) lab2 := by
 obtain ⟨h1, h2, vs, fps, h3, h4, h5⟩ := h
 refine ⟨fun c => ∃ i j, i < m /\ fps i j c, fun c => ∃ i j, m <= i /\ fps i j c, fun c ⟨i, j, _, hc⟩ => h4 i j c hc, fun c ⟨i, j, _, hc⟩ => h4 i j c hc, fun c ⟨i, j, hi, hc⟩ ⟨i', j', hi', hc'⟩ => ?_, ?_, ?_⟩
 ·have := (h5 i j i' j' c hc hc').1
  omega
 ·refine ⟨?_, fun v hv => h2 v (List.mem_of_mem_take hv), vs, fun i j c => i < m /\ fps i j c, fun i x j d hx hd => ?_, fun i j c hc => ⟨i, j, hc⟩, fun i j i' j' c hc hc' => h5 i j i' j' c hc.2 hc'.2⟩
  ·rw [List.length_take, List.length_take, h1, Nat.min_eq_left hm, Nat.min_eq_left (Nat.mul_le_mul_right _ hm)]
  ·rw [List.getElem?_take] at hx
   split at hx
   case isFalse => cases hx
   rename_i him
   obtain ⟨e1, e2⟩ := h3 i x j d hx hd
   have hj : j < t.size := by rw [<- Ty.aQ t x]; exact (zC.1 hd).1
   refine ⟨?_, e2.sub (fun c hc => ⟨him, hc⟩) fun e => e⟩
   rw [List.getElem?_take, if_pos (rQ him hj)]
   exact e1
 ·refine ⟨?_, fun v hv => h2 v (List.mem_of_mem_drop hv), fun i j => vs (m + i) j, fun i j => fps (m + i) j, fun i x j d hx hd => ?_, fun i j c hc => ⟨m + i, j, by omega, hc⟩, fun i j i' j' c hc hc' => ?_⟩
  ·rw [List.length_drop, List.length_drop, h1, Nat.sub_mul]
  ·rw [List.getElem?_drop] at hx
   obtain ⟨e1, e2⟩ := h3 _ x j d hx hd
   refine ⟨?_, e2⟩
   rw [List.getElem?_drop, <- Nat.add_assoc, <- Nat.add_mul]
   exact e1
  ·have := h5 _ _ _ _ c hc hc'
   exact ⟨by omega, this.2⟩
theorem Yf {G : Gh} {S : St} {a : Act} {w : World} {s i k1 k2 : Nat} {ws : List W} (hv : (aao s i k1 k2).val S = some ws) (h : Inv w0 G S a w) : ∃ G', Inv w0 G' (S.puts ws) a w := by
 simp only [aao, Rd.val] at hv
 split at hv
 case h_2 => cases hv
 rename_i k j hs
 simp only [Rd.val] at hv
 split at hv
 case h_2 => cases hv
 rename_i t xs m hown
 simp only [Rd.val, Rd.ak, zB] at hv
 obtain ⟨n, _, m', hm', w1, h1, w2, h2, hv⟩ := hv
 split at hv
 case isFalse => cases hv
 rename_i hc
 obtain ⟨c1, c2, c3, c4, c5⟩ := hc
 simp only [Rd.val, zD] at hv
 subst hv
 obtain ⟨hd1, rfl⟩ := eG h1
 obtain ⟨hd2, rfl⟩ := eG h2
 have hml : m' <= xs.length := by
  unfold cutAt at hm'
  split at hm'
  ·rename_i hn; cases hm'; omega
  ·cases hm'
 have hslot := h.gq s
 rw [hs] at hslot
 obtain ⟨hlk, hsv, _⟩ := hslot
 have hO := h.owns k j
 rw [hown] at hO
 have hO' : OwT w G.S true m t xs (G.ov k j) (eH G k j) := hO
 have hA := h.AB k j .dead trivial
 have hdead : aU ((S.bM k ((S.aC k).set j .dead)).aC k) j = .dead := yg
 have e1 : (S.bM k ((S.aC k).set j .dead)).aC k1 = [] := jS hd1
 have e2 : (S.bM k ((S.aC k).set j .dead)).aC k2 = [] := jS hd2
 have etl : (S.bM k ((S.aC k).set j .dead)).tmps.length = S.tmps.length := rfl
 generalize hS1 : S.bM k ((S.aC k).set j .dead) = S1 at *
 have fin : ∀ {G1 : Gh} (lab1 lab2 : Nat -> Prop) (v1 v2 : Value), Inv w0 G1 S1 a w -> G1.ow = G.ow -> (∀ c, lab1 c -> eH G k j c) -> (∀ c, lab2 c -> eH G k j c) -> (∀ c, lab1 c -> lab2 c -> False) ->
   vK w G1.S t (xs.take m') v1 lab1 -> vK w G1.S t (xs.drop m') v2 lab2 ->
   ((G.ov k j = .slice none 0 0 /\ m' = 0 /\ v1 = .slice none 0 0 /\ v2 = .slice none 0 0) \/
    ∃ b cap, G.ov k j = .slice (some ⟨b, 0, none⟩) xs.length cap /\ xs.length <= cap /\ m' <= xs.length /\ v1 = .slice (some ⟨b, 0, none⟩) m' cap /\ v2 = .slice (some ⟨b, if cap = m' then 0 else m' * t.size, none⟩) (xs.length - m') (cap - m')) ->
   ∃ G', Inv w0 G' (((S1.bM k1 [.seg t (xs.take m')]).bM k2 [.seg t (xs.drop m')]).fU s (.cut t xs.length m' k1 k2)) a w := by
  intro G1 lab1 lab2 v1 v2 hB how hl1 hl2 hdis hs1 hs2 hval
  classical
  obtain ⟨G2, hB2, hm2, q1, q2, q3, q4, q5⟩ := hB.rJ k1 [.seg t (xs.take m')] (fun _ => v1) (fun c => if lab1 c then some 0 else none) e1 (by rw [etl]; exact c4) (by simp)
   (fun c j' hc => by
    by_cases hl : lab1 c
    ·have hf := hl1 c hl
     have hlt := h.kz hf
     refine ⟨hlt.1, hlt.2, fun i' hb => ?_, fun k' j'' t2 xs2 d2 m2 hb => ?_⟩
     ·rw [how, show G.ow c = _ from hf] at hb; cases hb
     ·rw [how, show G.ow c = _ from hf] at hb; cases hb
      rw [hdead]; simp [O.fB]
    ·rw [if_neg hl] at hc; cases hc)
   (fun j' => by
    cases j' with
    | zero =>
     show vK w G1.S t (xs.take m') v1 _
     exact hs1.move (fun b o hs => ⟨hs, rfl⟩) fun c hc => ⟨if_pos hc, rfl⟩
    | succ j' => trivial)
  have e3 : (S1.bM k1 [.seg t (xs.take m')]).aC k2 = [] := by
   rw [aY, if_neg (fun e => c1 e.1)]; exact e2
  obtain ⟨G3, hB3, hm3, r1, r2, r3, r4, r5⟩ := hB2.rJ k2 [.seg t (xs.drop m')] (fun _ => v2) (fun c => if lab2 c then some 0 else none) e3 (by show k2 < S1.tmps.length; rw [etl]; exact c5) (by simp)
   (fun c j' hc => by
    by_cases hl : lab2 c
    ·have hf := hl2 c hl
     have hlt := h.kz hf
     have ho2 : G2.ow c = some (.own k j) := by
      rw [q5, if_neg (fun hh => hdis c hh hl)]
      show G1.ow c = _
      rw [how]; exact hf
     refine ⟨hlt.1, hlt.2, fun i' hb => ?_, fun k' j'' t2 xs2 d2 m2 hb => ?_⟩
     ·rw [ho2] at hb; cases hb
     ·rw [ho2] at hb; cases hb
      rw [aY, if_neg (fun e => c2 e.1), hdead]; simp [O.fB]
    ·rw [if_neg hl] at hc; cases hc)
   (fun j' => by
    cases j' with
    | zero =>
     show vK w G2.S t (xs.drop m') v2 _
     rw [q4]
     exact hs2.move (fun b o hs => ⟨hs, rfl⟩) fun c hc => ⟨if_pos hc, rfl⟩
    | succ j' => trivial)
  refine ⟨G3, hB3.GU s ?_⟩
  refine ⟨(hm3.k k1 q1).1, r1, ?_⟩
  rw [(hm3.k k1 q1).2 0, q2, r2]
  rcases hval with ⟨f1, f2, f3, f4⟩ | ⟨b, cap, f1, f2, f3, f4, f5⟩
  ·exact .inl ⟨by rw [hsv]; exact f1, f2, f3, f4⟩
  ·exact .inr ⟨b, cap, by rw [hsv]; exact f1, f2, f3, f4, f5⟩
 show ∃ G', Inv w0 G' ((S.bM k ((S.aC k).set j .dead)).puts _) a w
 rw [hS1]
 rcases hO'.laid with ⟨hov, hxs⟩ | ⟨b, cap, arr, E, rest, cells, hov, hb, hcap, hmax, hasz, hfb, harr, hL, hsS⟩
 ·have hm0 : m' = 0 := by rw [hxs] at hml; simpa using hml
  have hempty : ∀ (ys : List t.den), ys = [] -> vK w G.S t ys (.slice none 0 0) (fun _ => False) := fun ys hy => .inl ⟨⟨none, 0, rfl, fun _ => rfl⟩, hy⟩
  exact fin (fun _ => False) (fun _ => False) (.slice none 0 0) (.slice none 0 0) hA rfl (fun _ hh => hh.elim) (fun _ hh => hh.elim) (fun _ hh => hh.elim) (hempty _ (by rw [hxs]; simp)) (hempty _ (by rw [hxs]; simp)) (.inl ⟨hov, hm0, rfl, rfl⟩)
 ·obtain ⟨hB, hmB⟩ := hA.Vp (fun b' o => b' = b /\ o < xs.length * t.size)
   (fun b' o hb' => by
    obtain ⟨rfl, _⟩ := hb'
    have hlt := h.kz hfb
    refine ⟨hlt.2, fun i' hi' => ?_, fun k' j' t2 xs2 d2 m2 hx len cap' hov' how' => ?_⟩
    ·rw [show G.ow b' = _ from hfb] at hi'; cases hi'
    ·rw [show G.ow b' = _ from hfb] at how'; cases how'
     rw [hdead] at hx; cases hx)
   (fun b' o hb' => by obtain ⟨rfl, _⟩ := hb'; exact (h.kz hfb).1)
   (fun b' o hb' k' j' t2 xs2 hx how' => by
    obtain ⟨rfl, _⟩ := hb'
    rw [show G.ow b' = _ from hfb] at how'; cases how'
    rcases hx with hx | ⟨_, hx⟩ | hx <;> rw [hdead] at hx <;> cases hx)
  have hL' := hL.move (S' := fun b' o => G.S b' o \/ (b' = b /\ o < xs.length * t.size)) (w' := w) (fun b' o hs => ⟨.inl hs, rfl⟩) (fun c hc => ⟨hc, rfl⟩)
  obtain ⟨lab1, lab2, l1, l2, l3, l4, l5⟩ := hL'.split hml
  have hcell : ∀ p u, cells[p]? = some u -> w.cell? ⟨b, p, none⟩ = some u /\ p < xs.length * t.size := by
   intro p u hu
   have hp := (zC.1 hu).1
   refine ⟨?_, by rw [<- hL.1]; exact hp⟩
   rw [cell_of_row _ _ _ _ _ _ hb, <- Array.getElem?_toList, harr, List.getElem?_append_left hp]
   exact hu
  have hmul : m' * t.size <= xs.length * t.size := Nat.mul_le_mul_right _ hml
  refine fin lab1 lab2 (.slice (some ⟨b, 0, none⟩) m' cap) (.slice (some ⟨b, if cap = m' then 0 else m' * t.size, none⟩) (xs.length - m') (cap - m')) hB rfl (fun c hc => (l1 c hc).1) (fun c hc => (l2 c hc).1) l3 ?_ ?_ (.inr ⟨b, cap, hov, hcap, hml, rfl, rfl⟩)
  ·have hlen : (xs.take m').length = m' := by rw [List.length_take]; omega
   refine .inr ⟨b, 0, cap, cells.take (m' * t.size), by rw [hlen], fun p u hu => ?_, l4⟩
   rw [List.getElem?_take] at hu
   split at hu
   case isFalse => cases hu
   obtain ⟨g1, g2⟩ := hcell p u hu
   rw [Nat.zero_add]
   exact ⟨g1, .inr ⟨rfl, g2⟩⟩
  ·have hlen : (xs.drop m').length = xs.length - m' := List.length_drop
   by_cases hz : xs.length = m'
   ·refine .inl ⟨⟨_, cap - m', by rw [hz, Nat.sub_self], fun hh => by cases hh⟩, ?_⟩
    exact List.eq_nil_of_length_eq_zero (by rw [hlen]; omega)
   ·have hcm : ¬ cap = m' := by omega
    rw [if_neg hcm]
    refine .inr ⟨b, m' * t.size, cap - m', cells.drop (m' * t.size), by rw [hlen], fun p u hu => ?_, l5⟩
    rw [List.getElem?_drop] at hu
    obtain ⟨g1, g2⟩ := hcell _ u hu
    exact ⟨g1, .inr ⟨rfl, g2⟩⟩
theorem JS {G : Gh} {S : St} {a : Act} {w : World} {ρ : Type} {E : Env} {id : Nat} {k : St -> Option ρ} {r : ρ} (hv : abU E id S k = some r) (h : Inv w0 G S a w) : ∃ S' G', Inv w0 G' S' a w /\ k S' = some r := by
 unfold abU at hv
 split at hv
 ·exact ⟨S, G, h, hv⟩
 ·rw [Rd.iF, zB] at hv
  obtain ⟨ws, h1, h2⟩ := hv
  obtain ⟨G', h'⟩ := Yf h1 h
  exact ⟨_, G', h', h2⟩
theorem iP (hE : vO P E w0) (hm : P.follows .mixedOrders = true) : ∀ (c : Code) {ρ : Type} {r : ρ} {S : St} {a : Act} {w : World} {G : Gh} {k : Ex -> St -> Option ρ} {Q : Exit -> Act -> World -> Prop},
  den E an c S k = some r -> Inv w0 G S a w -> (∀ e S' a' w' G', k e S' = some r -> Inv w0 G' S' a' w' -> Q e.up a' w') -> c.wp P Q a w
 | .skip, ρ, r, S, a, w, G, k, Q, hv, h, hQ => wp_skip (hQ .normal S a w G hv h)
 | .label l, ρ, r, S, a, w, G, k, Q, hv, h, hQ => wp_label (hQ .normal S a w G hv h)
 | .region id ops false, ρ, r, S, a, w, G, k, Q, hv, h, hQ => by
  obtain ⟨S1, G1, h1, hv1⟩ := JS (k := fun S => adM E ops ops.toList S fun S => k .normal S) hv h
  refine wp_region ?_
  have := UF (P := P) (w0 := w0) (E := E) (ops := ops) (Q := Q) hE (k := fun S => k .normal S) (fun S' a' w' G' hk h' => hQ .normal S' a' w' G' hk h') (l := ops.toList) (i := 0) (by simp) hv1 h1
  rw [List.range_eq_range']
  simpa using this
 | .region id ops true, ρ, r, S, a, w, G, k, Q, hv, h, hQ => by
  obtain ⟨S1, G1, h1, hv1⟩ := JS (k := fun S => XD E ops id S fun S => k .normal S) hv h
  exact Vk hE hm (k := fun S => k .normal S) hv1 h1 fun S' a' w' G' hk h' => hQ .normal S' a' w' G' hk h'
 | .seq x y, ρ, r, S, a, w, G, k, Q, hv, h, hQ => by
  simp only [den] at hv
  split at hv
  ·refine wp_seq (iP hE hm x (Q := Exit.then (y.wp P Q) Q) hv h fun e S' a' w' G' hk h' => ?_)
   cases e with
   | normal => exact iP hE hm y hk h' hQ
   | exit id => exact hQ (.exit id) S' a' w' G' hk h'
   | ret => exact hQ .ret S' a' w' G' hk h'
  ·rename_i la hla
   unfold adv at hv
   rw [zB] at hv
   obtain ⟨j, hj, hf⟩ := hv
   refine wp_seq (iP hE hm x (Q := Exit.then (y.wp P Q) Q) hj h fun e S' a' w' G' hk h' => ?_)
   cases e with
   | normal =>
    simp only at hk
    rw [Rd.iF, zB] at hk
    obtain ⟨z, hz, hk⟩ := hk
    cases hk
    obtain ⟨G2, h2⟩ := Jd h' hz
    exact iP hE hm y hf h2 hQ
   | exit id =>
    simp only at hk
    rw [zB] at hk
    obtain ⟨r', hk, hr'⟩ := hk
    cases hr'
    cases hf
    exact hQ (.exit id) S' a' w' G' hk h'
   | ret =>
    simp only at hk
    rw [zB] at hk
    obtain ⟨r', hk, hr'⟩ := hk
    cases hr'
    cases hf
    exact hQ .ret S' a' w' G' hk h'
 | .cond c x y, ρ, r, S, a, w, G, k, Q, hv, h, hQ => by
  simp only [den] at hv
  split at hv
  ·rename_i t
   have hv1 := Na hv
   have hr := h.gq t
   split at hv1
   ·rename_i ht
    rw [ht] at hr
    have hr' : Rep w G.S (.bool true) (a.eval (.tmp t)) := hr
    generalize hvv : a.eval (.tmp t) = vv at hr'
    cases hr'
    exact wp_cond_true hvv (iP hE hm x hv1 h hQ)
   ·rename_i ht
    rw [ht] at hr
    have hr' : Rep w G.S (.bool false) (a.eval (.tmp t)) := hr
    generalize hvv : a.eval (.tmp t) = vv at hr'
    cases hr'
    exact wp_cond_false hvv (iP hE hm y hv1 h hQ)
   ·cases hv1
  ·cases hv
 | .block id c, ρ, r, S, a, w, G, k, Q, hv, h, hQ => by
  refine wp_block (iP hE hm c (Q := Exit.inBlock id Q) hv h fun e S' a' w' G' hk h' => ?_)
  cases e with
  | normal => exact hQ .normal S' a' w' G' hk h'
  | exit i =>
   simp only at hk
   show (if i = id then Q .normal a' w' else Q (.exit i) a' w')
   by_cases hi : i = id
   ·rw [if_pos hi] at hk ⊢
    exact hQ .normal S' a' w' G' hk h'
   ·rw [if_neg hi] at hk ⊢
    exact hQ (.exit i) S' a' w' G' hk h'
  | ret => exact hQ .ret S' a' w' G' hk h'
 | .loop c, ρ, r, S, a, w, G, k, Q, hv, h, hQ => by
  simp only [den] at hv
  split at hv
  ·cases hv
  rename_i la hla
  rw [Rd.iF, zB] at hv
  obtain ⟨x0, hx0, hl⟩ := hv
  obtain ⟨n0, hn0⟩ := lJ hl
  obtain ⟨G0, h0⟩ := Jd h hx0
  refine UN hn0 h0 (fun x res a1 w1 G1 hfx h1 Q' hn he => iP hE hm c hfx h1 fun e S' a' w' G' hk h' => ?_) (fun e S' a' w' G' hk h' => hQ e S' a' w' G' hk h')
  cases e with
  | normal =>
   simp only at hk
   rw [Rd.iF, zB] at hk
   obtain ⟨z, hz, hk⟩ := hk
   obtain ⟨G2, h2⟩ := Jd h' hz
   exact hn z a' w' G2 (Option.some.inj hk).symm h2
  | exit id =>
   simp only at hk
   rw [zB] at hk
   obtain ⟨r', hk, hr'⟩ := hk
   exact he r' (.exit id) S' a' w' G' (Option.some.inj hr').symm (by simp) hk h'
  | ret =>
   simp only at hk
   rw [zB] at hk
   obtain ⟨r', hk, hr'⟩ := hk
   exact he r' .ret S' a' w' G' (Option.some.inj hr').symm (by simp) hk h'
 | .exit id, ρ, r, S, a, w, G, k, Q, hv, h, hQ => wp_exit (hQ (.exit id) S a w G hv h)
 | .ret, ρ, r, S, a, w, G, k, Q, hv, h, hQ => wp_ret (hQ .ret S a w G hv h)
 | .scope c, ρ, r, S, a, w, G, k, Q, hv, h, hQ => by cases hv
 | .goto l, ρ, r, S, a, w, G, k, Q, hv, h, hQ => by cases hv
 | .rangeFunc .., ρ, r, S, a, w, G, k, Q, hv, h, hQ => by cases hv
 | .refuse s, ρ, r, S, a, w, G, k, Q, hv, h, hQ => by cases hv
end code
section functions
variable {P : Program}
theorem SS {G : Gh} {w : World} {n : Nat} {s : Sh} {x : s.t.den} {u : Value} (h : ShR (fun _ d u => Rep w G.S d u) n s x u) : pR G w (abN s x) u := by
 have key : ∀ {n : Nat} {ds : List D} {vs : List Value}, aO (fun _ d u => Rep w G.S d u) n ds vs -> bY G w (ds.map .d) vs := by
  intro n ds
  induction ds generalizing n with
  | nil => intro vs h; cases vs with
   | nil => trivial
   | cons => exact h.elim
  | cons d ds ih => intro vs h; cases vs with
   | nil => exact h.elim
   | cons v vs => exact ⟨h.1, ih h.2⟩
 unfold ShR at h
 unfold abN
 split at h
 ·rename_i hs
  obtain ⟨vs, rfl, hc⟩ := h
  rw [hs]
  exact ⟨vs, rfl, key hc⟩
 ·rename_i hs
  rw [hs]
  have hc := key h
  match hcs : (s.t.cells x).map C.d, hc with
  | [c], hc => exact hc.1
theorem yE {G : Gh} {w : World} : ∀ {n : Nat} {ss : List Sh} {x : Tup ss} {us : List Value}, jb (fun _ d u => Rep w G.S d u) n ss x us -> kL G w (JQ ss x) us
 | n, [], x, [], _ => trivial
 | n, [s], x, [u], h => ⟨SS h, trivial⟩
 | n, s :: s' :: r, (x, y), u :: us, h => ⟨SS h.1, yE h.2⟩
end functions
end Go.Abs
namespace Go.Abs
open Go.RowKit
theorem Ow.anyS {w : World} {S S' : Nat -> Nat -> Prop} {dp : Bool} {d : D} {v : Value} {fp : Nat -> Prop} (h : Ow w S dp d v fp) (hd : dp = true) : Ow w S' dp d v fp := by
 induction h with
 | int k n fp => exact .int k n fp
 | bool b fp => exact .bool b fp
 | str v fp => exact .str v fp
 | nil t fp => exact .nil t fp
 | ro d v fp hd' h => rw [hd'] at hd; cases hd
 | list t xs b cap arr E vs fps fp hb hcap hmax hsz hfb hc hr hf hdis ih => exact .list t xs b cap arr E vs fps fp hb hcap hmax hsz hfb hc ih hf hdis
section functions
variable {P : Program}
theorem RP {w : World} {S0 : Nat -> Nat -> Prop} (hS : ∀ b o, S0 b o -> b < w.heap.size) {n : Nat} {vs : List V} {us : List Value} (hv : ∀ G : Gh, G.S = S0 -> kL G w vs us) :
  ∃ G, Inv ⟨w, S0, fun _ => False, none⟩ G (wQ n vs) { tmps := us.toArray ++ Array.replicate (n - us.toArray.size) undef, defers := [] } w := by
 let G : Gh := { bk := fun _ => 0, ov := fun _ _ => undef, ow := fun _ => none, S := S0, lk := fun _ => False, lb := fun _ => False }
 obtain ⟨hl, hg⟩ := (hv G rfl).get
 have hgB : ∀ i, (wQ n vs).dP i = none := by
  intro i
  show (List.replicate _ (none : Option (List C))).getD i none = none
  rw [zE, List.getElem?_replicate]
  split <;> rfl
 have hgO : ∀ i, (wQ n vs).aC i = [] := by
  intro i
  show (List.replicate _ ([] : List O)).getD i [] = []
  rw [zE, List.getElem?_replicate]
  split <;> rfl
 refine ⟨G, ⟨lS.refl _ _ _, rfl, ?_, ?_, ?_, ?_, (fun b x hx => (by cases hx)), (fun b o hs => ⟨hS b o hs, fun i hi => (by cases hi)⟩), ?_, ?_, (fun k hk => hk.elim), (fun i hi => hi.elim), (fun b o hs _ => hs), (fun b hb => by cases hb)⟩⟩
 ·simp [wQ, hl]
 ·simp [wQ]
 ·simp [wQ]
 ·intro i v hv'
  simp only [Array.getElem?_append, List.size_toArray, List.getElem?_toArray] at hv'
  show iE G w ((vs.map AV.v ++ List.replicate _ AV.undef).getD i .undef) v
  rw [zE, List.getElem?_append]
  by_cases hi : i < us.length
  ·rw [if_pos hi] at hv'
   have hi' : i < vs.length := by omega
   rw [if_pos (by simpa using hi'), List.getElem?_map, zF hi']
   exact hg i vs[i] v (by simp [hi']) hv'
  ·rw [if_neg (by simp; omega), List.getElem?_replicate]
   split <;> trivial
 ·intro i cs hcs
  rw [hgB] at hcs; cases hcs
 ·intro k j
  rw [hgO]; trivial
def uf (tmps : Array Value) : ResultVar -> Sem Value
 | .tmp t => pure (tmps.getD t undef)
 | .cell p t => do loadVar t (<- asAddr (tmps.getD p undef))
theorem Y3 {w0 : Bs} {E : Env} (hT : E.tt.ok P = true) {G : Gh} {S : St} {a : Act} {w : World} (h : Inv w0 G S a w) {rv : ResultVar} {x : V} (hx : (resV E rv).val S = some x) :
  ∃ v, (uf a.tmps rv).run P w = .ok v w /\ pR G w x v := by
 cases rv with
 | tmp t =>
  simp only [resV, Rd.val] at hx
  exact ⟨_, rfl, lZ hx (h.gq t)⟩
 | cell p t =>
  simp only [resV] at hx
  split at hx
  ·cases hx
  ·rename_i agg n hs
   obtain ⟨d, i, hu, hi, hsz, hd⟩ := TT.qQ hT hs
   have hr := h.gq p
   change Rd.val (match S.gq p with
   | .v (.one (.ptr b off)) => .gB b fun
    | some cs => .opt (mkV agg (seg cs off n)) fun v => if (seg cs off n).length = n then .ret v else .fail
    | none => .fail
   | _ => .fail) S = some x at hx
   split at hx
   ·rename_i b off he
    rw [he] at hr
    have hpv : a.tmps.getD p undef = .pointer (some ⟨G.bk b, off, none⟩) := hr.2
    change Rd.val (match S.dP b with
     | some cs => .opt (mkV agg (seg cs off n)) fun v => if (seg cs off n).length = n then .ret v else .fail
     | none => .fail) S = some x at hx
    split at hx
    ·rename_i cs hcs
     simp only [Rd.val, zB] at hx
     obtain ⟨y, hy, hx⟩ := hx
     split at hx
     ·rename_i hn
      simp only [Rd.val, zD] at hx
      subst hx
      obtain ⟨_, vs, e, hh, hc⟩ := h.box b cs hcs
      obtain ⟨m1, m2⟩ := O6 hy (hc.seg off n)
      have hlen := (hc.seg off n).length
      have hcell : ∀ (j : Nat) (v : Value), (seg vs off n)[j]? = some v -> w.cell? ⟨G.bk b, off + j, none⟩ = some v := fun j v hv => by
       rw [cell_of_row w _ _ _ _ _ hh]
       simp only [Abs.seg, List.getElem?_take, List.getElem?_drop] at hv
       split at hv
       ·simpa using hv
       ·cases hv
      cases agg with
      | true =>
       have := jV (P := P) (w := w) t (G.bk b) off d i hu hi hd (seg vs off n) (by omega) hcell
       exact ⟨_, by simp only [uf, hpv, asAddr, Sem.run_bind, Sem.run_pure, Result.andThen_ok, this], m1 rfl⟩
      | false =>
       obtain ⟨v, hv1, hv2⟩ := m2 rfl
       have := ny (P := P) (w := w) t (G.bk b) off d hu hd v (by have := hcell 0 v (by rw [hv1]; rfl); simpa using this)
       exact ⟨_, by simp only [uf, hpv, asAddr, Sem.run_bind, Sem.run_pure, Result.andThen_ok, this], hv2⟩
     ·cases hx
    ·cases hx
   ·cases hx
theorem qh {w0 : Bs} {E : Env} (hT : E.tt.ok P = true) {G : Gh} {S : St} {a : Act} {w : World} (h : Inv w0 G S a w) : ∀ {rvs : List ResultVar} {xs : List V}, (zL E rvs).val S = some xs ->
  ∃ us, (rvs.mapM (uf a.tmps)).run P w = .ok us w /\ kL G w xs us
 | [], xs, hx => by
  simp only [zL, Rd.val, zD] at hx
  subst hx
  exact ⟨[], rfl, trivial⟩
 | rv :: r, xs, hx => by
  simp only [zL, Rd.ak, zB, Rd.val, zD] at hx
  obtain ⟨x, h1, xs', h2, rfl⟩ := hx
  obtain ⟨v, h3, h4⟩ := Y3 hT h h1
  obtain ⟨us, h5, h6⟩ := qh hT h h2
  refine ⟨v :: us, ?_, h4, h6⟩
  simp only [List.mapM_cons, Sem.run_bind, h3, Result.andThen_ok, h5, Sem.run_pure]
theorem NC {w0 : Bs} {G : Gh} {S : St} {a : Act} {w : World} (h : Inv w0 G S a w) {all : List C} (hall : (qM all).val S = some true) : ∀ {tys : List (Option Ty)} {cs : List C} {ds : List D} {vs : List Value} {n : Nat} {pre post : List C}, (cDs tys cs).val S = some ds ->
  tys.length = cs.length -> bY G w cs vs -> all = pre ++ cs ++ post -> pre.length = n -> aO (fun i d v => Ow w (fun _ _ => False) true d v (fun b => ∃ c, all[i]? = some c /\ rowsOf G S c b)) n ds vs
 | [], [], ds, [], n, pre, post, hd, _, _, _, _ => by
  simp only [cDs, Rd.val, zD] at hd; subst hd; trivial
 | ty :: tys, c :: cs, ds, v :: vs, n, pre, post, hd, hl, hc, ha, hp => by
  simp only [cDs, Rd.ak, zB, Rd.val, zD] at hd
  obtain ⟨d, h1, ds', h2, rfl⟩ := hd
  have hn : all[n]? = some c := by
   rw [ha, List.append_assoc, List.getElem?_append_right (by omega), hp]; simp
  obtain ⟨b, hb1, hb2⟩ := uQ hall n c hn
  have hw := P6 h h1 hc.1 hb1 hb2 (S' := fun b o => G.S b o \/ AK G S (aI all) b o) (keys := aI all) (fun _ _ hh => hh) (fun k j e => fO (e ▸ zG hn))
  exact ⟨(hw.anyS rfl).sub (fun b hb => ⟨c, hn, hb⟩) id, NC h hall (pre := pre ++ [c]) (post := post) h2 (by simpa using hl) hc.2 (by rw [ha]; simp) (by simp [hp])⟩
theorem Yp {w0 : Bs} {G : Gh} {S : St} {a : Act} {w : World} (h : Inv w0 G S a w) {all : List C} (hall : (qM all).val S = some true) {s : Sh} {x : V} {y : s.t.den} {v : Value} {n : Nat} {pre post : List C} (hy : (vT s x).val S = some y) (hx : pR G w x v)
  (ha : all = pre ++ x.cells ++ post) (hp : pre.length = n) : ShR (fun i d v => Ow w (fun _ _ => False) true d v (fun b => ∃ c, all[i]? = some c /\ rowsOf G S c b)) n s y v /\ x.cells.length = s.t.size := by
 simp only [vT] at hy
 split at hy
 ·rename_i hg
  simp only [Rd.ak, zB, Rd.val] at hy
  obtain ⟨ds, h1, z, h2, h3⟩ := hy
  simp only [zD] at h3
  subst h3
  obtain ⟨vs, hc, ha1, hb1⟩ := hx.cells
  have := NC h hall h1 (by rw [lg]; exact hg.2.symm) hc ha hp
  rw [<- Ty.bV h2] at this
  refine ⟨?_, hg.2⟩
  unfold ShR
  cases hs : s.agg with
  | true => exact ⟨vs, ha1 (by rw [hg.1, hs]), this⟩
  | false => rw [hb1 (by rw [hg.1, hs])] at this; exact this
 ·cases hy
theorem NV {w0 : Bs} {G : Gh} {S : St} {a : Act} {w : World} (h : Inv w0 G S a w) {all : List C} (hall : (qM all).val S = some true) : ∀ {ss : List Sh} {xs : List V} {y : Tup ss} {us : List Value} {n : Nat} {pre post : List C}, (vTs ss xs).val S = some y -> kL G w xs us ->
  all = pre ++ xs.flatMap V.cells ++ post -> pre.length = n -> jb (fun i d v => Ow w (fun _ _ => False) true d v (fun b => ∃ c, all[i]? = some c /\ rowsOf G S c b)) n ss y us
 | [], [], y, [], n, pre, post, _, _, _, _ => trivial
 | [s], [x], y, [u], n, pre, post, hy, hx, ha, hp => (Yp h hall (post := post) hy hx.1 (by rw [ha]; simp) hp).1
 | s :: s' :: r, x :: xs, y, u :: us, n, pre, post, hy, hx, ha, hp => by
  simp only [vTs, Rd.ak, zB, Rd.val, zD] at hy
  obtain ⟨p, h1, q, h2, rfl⟩ := hy
  obtain ⟨h3, h4⟩ := Yp h hall (post := xs.flatMap V.cells ++ post) h1 hx.1 (by rw [ha]; simp) hp
  exact ⟨h3, NV h hall (pre := pre ++ x.cells) (post := post) h2 hx.2 (by rw [ha]; simp) (by simp [hp, h4])⟩
 | [s], x :: x' :: xs, y, us, n, pre, post, hy, _, _, _ => by simp [vTs, Rd.val] at hy
 | [s], [], y, us, n, pre, post, hy, _, _, _ => by simp [vTs, Rd.val] at hy
 | [], _ :: _, y, us, n, pre, post, hy, _, _, _ => by simp [vTs, Rd.val] at hy
 | s :: s' :: r, [], y, us, n, pre, post, hy, _, _, _ => by simp [vTs, Rd.val] at hy
theorem PO {w : World} {S0 : Nat -> Nat -> Prop} {E : Env} (hT : E.tt.ok P = true) {fn : Func} {rs : List Sh} {ex : Bool} {G : Gh} {S : St} {a : Act} {w' : World} {y : Tup rs} (hv : (finish E fn rs ex).val S = some y) (h : Inv ⟨w, S0, fun _ => False, none⟩ G S a w') :
  ∃ v, (results fn a.tmps).run P w' = .ok v w' /\ vF w.heap.size w' S0 ex rs y v := by
 simp only [finish, Rd.ak, zB] at hv
 obtain ⟨xs, h1, ok, h2, hv⟩ := hv
 split at hv
 case isFalse => cases hv
 rename_i hok
 subst hok
 obtain ⟨us, hr, hus⟩ := qh hT h h1
 refine ⟨pack us, ?_, us, rfl, ?_⟩
 ·have e : (results fn a.tmps).run P w' = .ok (if h : us.toArray.size = 1 then us.toArray[0] else .tuple us.toArray) w' := by
   change ((fn.results.mapM (uf a.tmps)) >>= fun vs => pure (if h : vs.size = 1 then vs[0] else .tuple vs)).run P w' = _
   simp only [Array.mapM_eq_mapM_toList, Sem.run_bind, Sem.run_map, hr, Result.andThen_ok, Sem.run_pure]
  rw [e]
  match us with
  | [] => rfl
  | [u] => rfl
  | u :: u' :: r => rw [dif_neg (by simp)]; rfl
 ·cases ex with
  | true =>
   simp only [if_true, abM, Rd.ak, zB, Rd.val, zD] at h2
   obtain ⟨b, h3, h4⟩ := h2
   rw [zI] at h4
   obtain ⟨rfl, hnd⟩ := h4
   refine ⟨fun i b => ∃ c, (xs.flatMap V.cells)[i]? = some c /\ rowsOf G S c b, NV h h3 (pre := []) (post := []) hv hus (by simp) rfl, ?_, ?_⟩
   ·rintro i c ⟨cc, _, k, j, _, how, _⟩
    exact h.kz how
   ·rintro i i' c ⟨cc, hc, k, j, rfl, how, _⟩ ⟨cc', hc', k', j', rfl, how', _⟩
    rw [how] at how'
    cases how'
    exact eX hnd hc hc'
  | false =>
   refine ⟨fun b o => G.S b o \/ AK G S (aI (xs.flatMap V.cells)) b o, sZ h _ 0 hv hus fun k j x hx hm => oK hx hm, ?_⟩
   rintro b o (hs | ⟨k, j, _, _, _, _, _, _, how, _⟩)
   ·refine ⟨?_, (h.sok b o hs).1⟩
    rcases Nat.lt_or_ge b w.heap.size with hl | hl
    ·exact .inl (h.sfr b o hs hl)
    ·exact .inr hl
   ·have := h.kz how
    exact ⟨.inr this.1, this.2⟩
theorem Sound.weaken {fid : Nat} {ps rs : List Sh} {ex sh : Bool} {f g : Tup ps -> Option (Tup rs)} (h : Sound P { fid := fid, ps := ps, rs := rs, ex := ex, sh := sh, fn := f }) (hle : ∀ x y, g x = some y -> f x = some y) : Sound P { fid := fid, ps := ps, rs := rs, ex := ex, sh := sh, fn := g } :=
 fun w S args x y hy => h w S args x y (hle x y hy)
theorem tu {E : Env} (hE : dY P E) (hm : P.follows .mixedOrders = true) (an : List (Nat × LA)) {s : Fsp} {fn : Func} (hf : P.funcs[s.fid]? = some fn)
  (hden : ∀ x, Vl E an fn s.ps s.rs s.ex x = s.fn x) : Sound P s := by
 intro w S args x y hy ham hargs hS
 rw [<- hden x] at hy
 unfold Vl at hy
 split at hy
 ·cases hy
 ·rename_i c hb
  obtain ⟨G, h⟩ := RP hS (n := fn.ntmps) (vs := JQ s.ps x) (us := args) (fun G hG => yE (by rw [hG]; exact hargs))
  refine calls_of_wp hf hb (iP (hE.at (.none ham)) hm c hy h fun e S' a' w' G' hk h' => ?_)
  have key : (finish E fn s.rs s.ex).val S' = some y -> bodyPost P fn (fun e w' => ∃ v, e = .returned v /\ Below w.heap.size w w' /\ vF w.heap.size w' S s.ex s.rs y v) .ret a' w' := by
   intro hv
   obtain ⟨v, h1, h2⟩ := PO hE.1 hv h'
   exact ⟨h'.nodef, v, h1, v, rfl, h'.below.FU fun _ hf => hf, h2⟩
  cases e with
  | normal =>
   change (finish E fn s.rs s.ex).runK S' some = some y at hk
   rw [Rd.iF, zB] at hk
   obtain ⟨z, hz, hz'⟩ := hk
   cases hz'
   exact key hz
  | exit id => cases hk
  | ret =>
   change (finish E fn s.rs s.ex).runK S' some = some y at hk
   rw [Rd.iF, zB] at hk
   obtain ⟨z, hz, hz'⟩ := hk
   cases hz'
   exact key hz
theorem aO.shift {Q : D -> Value -> Prop} : ∀ {n m : Nat} {ds : List D} {vs : List Value}, aO (fun _ d u => Q d u) n ds vs -> aO (fun _ d u => Q d u) m ds vs
 | n, m, [], [], _ => trivial
 | n, m, d :: ds, v :: vs, h => ⟨h.1, aO.shift h.2⟩
theorem ShR.shift {Q : D -> Value -> Prop} {n m : Nat} {s : Sh} {x : s.t.den} {u : Value} (h : ShR (fun _ d u => Q d u) n s x u) : ShR (fun _ d u => Q d u) m s x u := by
 unfold ShR at *
 split at h
 ·obtain ⟨vs, e, hc⟩ := h; exact ⟨vs, e, hc.shift⟩
 ·exact aO.shift h
theorem jb.shift {Q : D -> Value -> Prop} : ∀ {n m : Nat} {ss : List Sh} {y : Tup ss} {us : List Value}, jb (fun _ d u => Q d u) n ss y us -> jb (fun _ d u => Q d u) m ss y us
 | n, m, [], y, [], _ => trivial
 | n, m, [s], y, [u], h => ShR.shift (s := s) h
 | n, m, s :: s' :: r, y, u :: us, h => ⟨h.1.shift, h.2.shift⟩
theorem jb.split {Q : D -> Value -> Prop} {n : Nat} {c : Sh} {rs : List Sh} {y : Tup (c :: rs)} {u : Value} {us : List Value} (h : jb (fun _ d u => Q d u) n (c :: rs) y (u :: us)) :
  ShR (fun _ d u => Q d u) 0 c (vU y) u /\ jb (fun _ d u => Q d u) 0 rs (Mc y) us := by
 cases rs with
 | nil => cases us with
  | nil => exact ⟨ShR.shift (s := c) h, trivial⟩
  | cons => exact h.elim
 | cons s r => exact ⟨h.1.shift, h.2.shift⟩
theorem ShR.agg {Q : D -> Value -> Prop} {c : Sh} {x : c.t.den} {vs : List Value} (hc : c.agg = true) (h : ShR (fun _ d u => Q d u) 0 c x (.agg vs.toArray)) : aO (fun _ d u => Q d u) 0 (c.t.cells x) vs := by
 unfold ShR at h
 rw [hc] at h
 obtain ⟨vs', e, h⟩ := h
 have : vs = vs' := by simpa using e
 rw [this]; exact h
theorem Bo {fn : Func} {a : Act} {w' : World} {us : List Value} (hr : (fn.results.toList.mapM (uf a.tmps)).run P w' = .ok us w') : (results fn a.tmps).run P w' = .ok (pack us) w' := by
 have e : (results fn a.tmps).run P w' = .ok (if h : us.toArray.size = 1 then us.toArray[0] else .tuple us.toArray) w' := by
  change ((fn.results.mapM (uf a.tmps)) >>= fun vs => pure (if h : vs.size = 1 then vs[0] else .tuple vs)).run P w' = _
  simp only [Array.mapM_eq_mapM_toList, Sem.run_bind, Sem.run_map, hr, Result.andThen_ok, Sem.run_pure]
 rw [e]
 match us with
 | [] => rfl
 | [u] => rfl
 | u :: u' :: r => rw [dif_neg (by simp)]; rfl
theorem XP {w : World} {S0 : Nat -> Nat -> Prop} {bb : Nat} (hS : ∀ b o, S0 b o -> b < w.heap.size /\ b ≠ bb) {vs0 : List Value} {Et : TypeId} (hh : w.heap[bb]? = some (.cells vs0.toArray Et (0, 0))) {n : Nat} {cs : List C} {vs : List V} {us : List Value}
  (hv : ∀ G : Gh, G.S = S0 -> bY G w cs vs0 /\ kL G w vs us) :
  ∃ G, Inv ⟨w, S0, fun c => c = bb, some bb⟩ G (uD n cs vs) { tmps := (Value.pointer (some ⟨bb, 0, none⟩) :: us).toArray ++ Array.replicate (n - (Value.pointer (some ⟨bb, 0, none⟩) :: us).toArray.size) undef, defers := [] } w := by
 let G : Gh := { bk := fun _ => bb, ov := fun _ _ => undef, ow := fun c => if c = bb then some (.box 0) else none, S := S0, lk := fun _ => False, lb := fun i => i = 0 }
 obtain ⟨hcs, hvs⟩ := hv G rfl
 obtain ⟨hl, hg⟩ := hvs.get
 have hlt : bb < w.heap.size := (Array.getElem?_eq_some_iff.1 hh).1
 have how : ∀ c x, G.ow c = some x -> c = bb /\ x = .box 0 := fun c x hx => by
  have hx' : (if c = bb then some (vG.box 0) else none) = some x := hx
  split at hx'
  ·rename_i e; cases hx'; exact ⟨e, rfl⟩
  ·cases hx'
 have hgB : ∀ i, (uD n cs vs).dP i = if i = 0 then some cs else none := by
  intro i
  show (some cs :: List.replicate _ (none : Option (List C))).getD i none = _
  cases i with
  | zero => rfl
  | succ i =>
   rw [zE, List.getElem?_cons_succ, List.getElem?_replicate, if_neg (Nat.succ_ne_zero i)]
   split <;> rfl
 have hgO : ∀ i, (uD n cs vs).aC i = [] := by
  intro i
  show (List.replicate _ ([] : List O)).getD i [] = []
  rw [zE, List.getElem?_replicate]
  split <;> rfl
 refine ⟨G, ⟨lS.refl _ _ _, rfl, ?_, ?_, ?_, ?_, (fun b x hx => ?_), (fun b o hs => ⟨(hS b o hs).1, fun i hi => (hS b o hs).2 (how _ _ hi).1⟩), ?_, ?_, (fun k hk => hk.elim), ?_, (fun b o hs _ => hs), (fun b hb => by cases hb; exact ⟨rfl, fun _ => .refl _ _⟩)⟩⟩
 ·simp [uD, hl]; omega
 ·simp [uD]
 ·simp [uD]; omega
 ·intro i v hv'
  simp only [Array.getElem?_append, List.size_toArray, List.getElem?_toArray] at hv'
  show iE G w ((.v (.one (.ptr 0 0)) :: vs.map AV.v ++ List.replicate _ AV.undef).getD i .undef) v
  rw [zE, List.getElem?_append]
  by_cases hi : i < us.length + 1
  ·rw [if_pos (by simpa using hi)] at hv'
   rw [if_pos (by simp; omega)]
   cases i with
   | zero =>
    simp at hv'
    subst hv'
    exact ⟨rfl, rfl⟩
   | succ i =>
    simp only [List.getElem?_cons_succ] at hv' ⊢
    have hi' : i < vs.length := by omega
    rw [List.getElem?_map, zF hi']
    exact hg i vs[i] v (by simp [hi']) hv'
  ·rw [if_neg (by simp; omega), List.getElem?_replicate]
   split <;> trivial
 ·obtain ⟨rfl, rfl⟩ := how b x hx
  exact ⟨.inr ⟨rfl, rfl⟩, hlt⟩
 ·intro i cs' hcs'
  rw [hgB] at hcs'
  split at hcs'
  ·rename_i e
   cases hcs'
   subst e
   exact ⟨if_pos rfl, vs0, Et, hh, hcs⟩
  ·cases hcs'
 ·intro k j
  rw [hgO]; trivial
 ·intro i hi
  rw [hgB, if_pos hi]; simp
theorem abY {w0 : Bs} {G : Gh} {S : St} {a : Act} {w : World} (h : Inv w0 G S a w) {ty : Option Ty} {c : C} {d : D} {v : Value} (hd : (cD ty c).val S = some d) (hc : kY G w c v) (hs : (cSh c).val S = some true) : FQ w G.S d v (rowsOf G S c) := by
 cases c with
 | undef => cases hd
 | ptr => cases hd
 | d x =>
  simp only [cD, Rd.val, zD] at hd
  subst hd
  cases x with
  | list t xs => simp [cSh, Rd.val] at hs
  | int => exact hc
  | bool => exact hc
  | str => exact hc
 | nil =>
  cases ty with
  | none => cases hd
  | some t =>
   simp only [cD, Rd.val, zD] at hd
   subst hd
   exact .inl ⟨hc, rfl⟩
 | own k j =>
  simp only [cSh, Rd.val] at hs
  simp only [cD, Rd.val] at hd
  have ho := h.owns k j
  split at hs
  ·rename_i t xs dp hog
   rw [hog] at hd ho
   simp only [Rd.val, zD] at hd
   subst hd
   have ho' : OwT w G.S dp true t xs (G.ov k j) (eH G k j) := ho
   show OwT w G.S false true t xs v _
   rw [hc.2.1]
   rcases ho' with h' | ⟨b, cap, arr, E, vs, fps, e, hb, hcap, hmax, hsz, hfb, hcc, hrr, hff, hdis, hst⟩
   ·exact .inl h'
   ·have hin : ∀ x, eH G k j x -> rowsOf G S (.own k j) x := fun x hx => ⟨k, j, rfl, hx, t, xs, dp, true, by rw [hog]; rfl⟩
    exact .inr ⟨b, cap, arr, E, vs, fps, e, hb, hcap, hmax, hsz, hin _ hfb, hcc, fun i x j' d' hx hd' => (hrr i x j' d' hx hd').sub (fun _ hh => hh) (fun hh => by cases hh), fun i j' c hcf => ⟨hin _ (hff i j' c hcf).1, (hff i j' c hcf).2⟩, hdis, hst⟩
  ·simp [Rd.val] at hs
theorem Tm {S : St} : ∀ {cs : List C} {b : Bool}, (abV cs).val S = some b -> b = true -> ∀ c, c ∈ cs -> (cSh c).val S = some true
 | [], _, _, _, c, hc => by cases hc
 | c0 :: cs, b, hv, hb, c, hc => by
  simp only [abV, Rd.ak, zB, Rd.val, zD] at hv
  obtain ⟨b1, h1, b2, h2, e⟩ := hv
  rw [hb, zI] at e
  rcases List.mem_cons.1 hc with rfl | hc
  ·rw [e.1] at h1; exact h1
  ·exact Tm h2 e.2 c hc
theorem FQ.sub {w : World} {S : Nat -> Nat -> Prop} {d : D} {v : Value} {fp fp' : Nat -> Prop} (h : FQ w S d v fp) (hf : ∀ b, fp b -> fp' b) : FQ w S d v fp' := by
 cases d with
 | list t xs => exact OwT.rest (S := S) h (fun _ _ hh => hh) (fun _ _ _ hh => hh) hf
 | int => exact h
 | bool => exact h
 | str => exact h
theorem Tt {w0 : Bs} {G : Gh} {S : St} {a : Act} {w : World} (h : Inv w0 G S a w) {all : List C} (hall : ∀ c, c ∈ all -> (cSh c).val S = some true) : ∀ {tys : List (Option Ty)} {cs : List C} {ds : List D} {vs : List Value} {n : Nat} {pre post : List C}, (cDs tys cs).val S = some ds ->
  tys.length = cs.length -> bY G w cs vs -> all = pre ++ cs ++ post -> pre.length = n -> aO (fun i d v => FQ w G.S d v (fun b => ∃ c, all[i]? = some c /\ rowsOf G S c b)) n ds vs
 | [], [], ds, [], n, pre, post, hd, _, _, _, _ => by
  simp only [cDs, Rd.val, zD] at hd; subst hd; trivial
 | ty :: tys, c :: cs, ds, v :: vs, n, pre, post, hd, hl, hc, ha, hp => by
  simp only [cDs, Rd.ak, zB, Rd.val, zD] at hd
  obtain ⟨d, h1, ds', h2, rfl⟩ := hd
  have hn : all[n]? = some c := by
   rw [ha, List.append_assoc, List.getElem?_append_right (by omega), hp]; simp
  exact ⟨(abY h h1 hc.1 (hall c (zG hn))).sub fun b hb => ⟨c, hn, hb⟩, Tt h hall (pre := pre ++ [c]) (post := post) h2 (by simpa using hl) hc.2 (by rw [ha]; simp) (by simp [hp])⟩
theorem ab9 {w0 : Bs} {G : Gh} {S : St} {a : Act} {w : World} (h : Inv w0 G S a w) {all : List C} (hall : ∀ c, c ∈ all -> (cSh c).val S = some true) {s : Sh} {x : V} {y : s.t.den} {v : Value} {n : Nat} {pre post : List C} (hy : (vT s x).val S = some y) (hx : pR G w x v)
  (ha : all = pre ++ x.cells ++ post) (hp : pre.length = n) : ShR (fun i d v => FQ w G.S d v (fun b => ∃ c, all[i]? = some c /\ rowsOf G S c b)) n s y v /\ x.cells.length = s.t.size := by
 simp only [vT] at hy
 split at hy
 ·rename_i hg
  simp only [Rd.ak, zB, Rd.val] at hy
  obtain ⟨ds, h1, z, h2, h3⟩ := hy
  simp only [zD] at h3
  subst h3
  obtain ⟨vs, hc, ha1, hb1⟩ := hx.cells
  have := Tt h hall h1 (by rw [lg]; exact hg.2.symm) hc ha hp
  rw [<- Ty.bV h2] at this
  refine ⟨?_, hg.2⟩
  unfold ShR
  cases hs : s.agg with
  | true => exact ⟨vs, ha1 (by rw [hg.1, hs]), this⟩
  | false => rw [hb1 (by rw [hg.1, hs])] at this; exact this
 ·cases hy
theorem Yo {w0 : Bs} {G : Gh} {S : St} {a : Act} {w : World} (h : Inv w0 G S a w) {all : List C} (hall : ∀ c, c ∈ all -> (cSh c).val S = some true) : ∀ {ss : List Sh} {xs : List V} {y : Tup ss} {us : List Value} {n : Nat} {pre post : List C}, (vTs ss xs).val S = some y -> kL G w xs us ->
  all = pre ++ xs.flatMap V.cells ++ post -> pre.length = n -> jb (fun i d v => FQ w G.S d v (fun b => ∃ c, all[i]? = some c /\ rowsOf G S c b)) n ss y us
 | [], [], y, [], n, pre, post, _, _, _, _ => trivial
 | [s], [x], y, [u], n, pre, post, hy, hx, ha, hp => (ab9 h hall (post := post) hy hx.1 (by rw [ha]; simp) hp).1
 | s :: s' :: r, x :: xs, y, u :: us, n, pre, post, hy, hx, ha, hp => by
  simp only [vTs, Rd.ak, zB, Rd.val, zD] at hy
  obtain ⟨p, h1, q, h2, rfl⟩ := hy
  obtain ⟨h3, h4⟩ := ab9 h hall (post := xs.flatMap V.cells ++ post) h1 hx.1 (by rw [ha]; simp) hp
  exact ⟨h3, Yo h hall (pre := pre ++ x.cells) (post := post) h2 hx.2 (by rw [ha]; simp) (by simp [hp, h4])⟩
 | [s], x :: x' :: xs, y, us, n, pre, post, hy, _, _, _ => by simp [vTs, Rd.val] at hy
 | [s], [], y, us, n, pre, post, hy, _, _, _ => by simp [vTs, Rd.val] at hy
 | [], _ :: _, y, us, n, pre, post, hy, _, _, _ => by simp [vTs, Rd.val] at hy
 | s :: s' :: r, [], y, us, n, pre, post, hy, _, _, _ => by simp [vTs, Rd.val] at hy
theorem WJ {S : St} {c : Sh} {rs : List Sh} {x : V} {xs : List V} {y : Tup (c :: rs)} (hy : (vTs (c :: rs) (x :: xs)).val S = some y) : (vT c x).val S = some (vU y) /\ (vTs rs xs).val S = some (Mc y) := by
 cases rs with
 | nil => cases xs with
  | nil => exact ⟨hy, rfl⟩
  | cons => simp [vTs, Rd.val] at hy
 | cons s r =>
  simp only [vTs, Rd.ak, zB, Rd.val, zD] at hy
  obtain ⟨p, h1, q, h2, rfl⟩ := hy
  exact ⟨h1, h2⟩
theorem QU {w : World} {S0 : Nat -> Nat -> Prop} {F : Nat -> Prop} {bx : Option Nat} {G : Gh} {S : St} {a : Act} {w' : World} (h : Inv ⟨w, S0, F, bx⟩ G S a w') {sh : Bool} {xs : List V} {us : List Value} (hus : kL G w' xs us) {rs : List Sh} {y : Tup rs} {ok : Bool}
  (hok : (if sh then OM (xs.flatMap V.cells) else Rd.ret true).val S = some ok) (ht : ok = true) (hy : (vTs rs xs).val S = some y) :
  ∃ S' : Nat -> Nat -> Prop, (∀ b o, G.S b o -> S' b o) /\ NI w.heap.size w' S' sh rs y us /\ ∀ b o, S' b o -> (S0 b o \/ w.heap.size <= b) /\ b < w'.heap.size := by
 have hG : ∀ b o, G.S b o -> (S0 b o \/ w.heap.size <= b) /\ b < w'.heap.size := fun b o hs => by
  refine ⟨?_, (h.sok b o hs).1⟩
  rcases Nat.lt_or_ge b w.heap.size with hl | hl
  ·exact .inl (h.sfr b o hs hl)
  ·exact .inr hl
 cases sh with
 | false =>
  refine ⟨fun b o => G.S b o \/ AK G S (aI (xs.flatMap V.cells)) b o, fun b o => .inl, sZ h _ 0 hy hus fun k j x hx hm => oK hx hm, ?_⟩
  rintro b o (hs | ⟨k, j, _, _, _, _, _, _, how, _⟩)
  ·exact hG b o hs
  ·have := h.kz how
   exact ⟨.inr this.1, this.2⟩
 | true =>
  simp only [if_true, OM, Rd.ak, zB, Rd.val, zD] at hok
  obtain ⟨b, h3, h4⟩ := hok
  rw [ht, zI] at h4
  obtain ⟨hb, hnd⟩ := h4
  refine ⟨G.S, fun b o hs => hs, ⟨fun i b => ∃ c, (xs.flatMap V.cells)[i]? = some c /\ rowsOf G S c b, Yo h (Tm h3 hb) (pre := []) (post := []) hy hus (by simp) rfl, ?_, ?_⟩, hG⟩
  ·rintro i c ⟨cc, _, k, j, _, how, _⟩
   exact h.kz how
  ·rintro i i' c ⟨cc, hc, k, j, rfl, how, _⟩ ⟨cc', hc', k', j', rfl, how', _⟩
   rw [how] at how'
   cases how'
   exact eX hnd hc hc'
theorem cells_kept {w w' : World} {S0 G : Nat -> Nat -> Prop} {bb : Nat} (hb : lS (fun c => c = bb) w.heap.size w w') (hS0 : ∀ b o, S0 b o -> b < w.heap.size /\ b ≠ bb) {t : Ty} {x x0 : t.den} {vs0 vs' : List Value}
  (hk : ∀ (i : Nat) p l c, vs0[i]? = some (Value.slice p l c) -> vs'[i]? = some (Value.slice p l c)) (h0 : aO (fun _ d u => Rep w S0 d u) 0 (t.cells x0) vs0) (h : aO (fun _ d u => Rep w' G d u) 0 (t.cells x) vs') : aO (fun _ d u => Rep w' S0 d u) 0 (t.cells x) vs' := by
 have key : ∀ {ds ds0 : List D} {n : Nat} {vs0 vs' : List Value}, ds.map ji = ds0.map ji -> (∀ (i : Nat) p l c, vs0[i]? = some (Value.slice p l c) -> vs'[i]? = some (Value.slice p l c)) -> aO (fun _ d u => Rep w S0 d u) n ds0 vs0 -> aO (fun _ d u => Rep w' G d u) n ds vs' -> aO (fun _ d u => Rep w' S0 d u) n ds vs' := by
  intro ds
  induction ds with
  | nil => intro ds0 n vs0 vs' _ _ _ h; cases vs' with
   | nil => trivial
   | cons => exact h.elim
  | cons d ds ih =>
   intro ds0 n vs0 vs' ht hk h0 h
   cases ds0 with
   | nil => cases ht
   | cons d0 ds0 =>
    cases vs' with
    | nil => exact h.elim
    | cons v vs' =>
     cases vs0 with
     | nil => exact h0.elim
     | cons v0 vs0 =>
      simp only [List.map_cons, List.cons.injEq] at ht
      refine ⟨?_, ih ht.2 (fun i p l c hi => hk (i + 1) p l c hi) h0.2 h.2⟩
      have h1 := h.1
      have h01 := h0.1
      cases d with
      | int k n => cases h1; exact .int _ _
      | bool b => cases h1; exact .bool _
      | str s => cases h1; exact .str _
      | list t1 xs =>
       have hsl : ∃ p l c, v0 = .slice p l c := by
        have : ji d0 = some t1 := ht.1.symm
        cases h01 with
        | int => cases this
        | bool => cases this
        | str => cases this
        | nil => exact ⟨_, _, _, rfl⟩
        | emp => exact ⟨_, _, _, rfl⟩
        | list => exact ⟨_, _, _, rfl⟩
       obtain ⟨p, l, c, rfl⟩ := hsl
       have : v = .slice p l c := by
        have := hk 0 p l c rfl
        simpa using this
       subst this
       have h2 : Rep w' S0 d0 (.slice p l c) := h01.move fun b o hs => ⟨hs, World.cell?_of_block (w := w) (hb.block b (hS0 b o hs).1 (hS0 b o hs).2)⟩
       rw [Rep.det h1 h2 ht.1]
       exact h2
 exact key ((Gu t x).trans (Gu t x0).symm) hk h0 h
theorem LQ {w : World} {S0 : Nat -> Nat -> Prop} {bb : Nat} {E : Env} (hT : E.tt.ok P = true) {fn : Func} {rs : List Sh} {ex sh : Bool} {G : Gh} {S : St} {a : Act} {w' : World} {y : Tup rs} (hv : (yD E fn rs ex sh).val S = some y) (h : Inv ⟨w, S0, fun c => c = bb, some bb⟩ G S a w')
  (hS0 : ∀ b o, S0 b o -> b < w.heap.size /\ b ≠ bb) {vs0 : List Value} {E0 : TypeId} (hh0 : w.heap[bb]? = some (.cells vs0.toArray E0 (0, 0))) (hc0 : ex = true -> ∀ c rs', rs = c :: rs' -> ∃ x0 : c.t.den, aO (fun _ d u => Rep w S0 d u) 0 (c.t.cells x0) vs0) :
  ∃ v, (results fn a.tmps).run P w' = .ok v w' /\ ab7 w.heap.size w' S0 bb ex sh rs y v := by
 unfold yD at hv
 split at hv
 case isFalse => cases hv
 rename_i hb
 simp only [Rd.val] at hv
 split at hv
 case h_2 => cases hv
 rename_i cs hcs
 split at hv
 case isFalse => cases hv
 rename_i hko
 simp only [Rd.ak, zB] at hv
 obtain ⟨xs, h1, ok, hok, hv⟩ := hv
 split at hv
 case isFalse => cases hv
 rename_i ht
 obtain ⟨us, hr, hus⟩ := qh hT h h1
 obtain ⟨ho, vs', Et, hh, hcr⟩ := h.box 0 cs hcs
 rw [(h.fx bb rfl).1] at hh
 refine ⟨pack us, Bo hr, ?_⟩
 cases rs with
 | nil => cases hb
 | cons c rs =>
  obtain ⟨e1, e2⟩ := WJ hv
  have h2 := TM h [] 0 e1 (v := .agg vs'.toArray) ⟨vs', rfl, hcr⟩ fun k j hm => by
   have : (k, j) ∈ aI cs := fO hm
   rw [hko] at this; cases this
  cases ex with
  | false =>
   obtain ⟨S', hS, hres, hbd⟩ := QU h hus hok ht e2
   refine ⟨S', vs', Et, us, rfl, hh, ShR.agg (c := c) (Q := fun d u => Rep w' S' d u) hb (h2.imp fun i d v hr => hr.move fun b o hs => ⟨?_, rfl⟩), hres, fun b o hs => ⟨(hbd b o hs).1.imp id fun hb => ⟨rfl, hb⟩, (hbd b o hs).2⟩⟩
   rcases hs with hs | ⟨k, j, _, _, _, _, hm, _⟩
   ·exact hS b o hs
   ·cases hm
  | true =>
   simp only [if_true, abM, Rd.ak, zB, Rd.val, zD] at hok
   obtain ⟨b0, h3, h4⟩ := hok
   rw [ht, zI] at h4
   obtain ⟨rfl, hnd⟩ := h4
   obtain ⟨vs2, E2, hh2, hk2⟩ := (h.fx bb rfl).2 (Array.getElem?_eq_some_iff.1 hh0).1 vs0 E0 hh0
   have e : vs2 = vs' := by
    rw [hh] at hh2
    cases hh2
    rfl
   subst e
   obtain ⟨x0, hc⟩ := hc0 rfl c rs rfl
   refine ⟨S0, vs2, Et, us, rfl, hh, cells_kept h.below hS0 hk2 hc (ShR.agg (c := c) (Q := fun d u => Rep w' (fun b o => G.S b o \/ AK G S [] b o) d u) hb h2), ?_, fun b o hs => ⟨.inl hs, Nat.lt_of_lt_of_le (hS0 b o hs).1 h.below.size⟩⟩
   refine ⟨fun i b => ∃ c, (xs.flatMap V.cells)[i]? = some c /\ rowsOf G S c b, NV h h3 (pre := []) (post := []) e2 hus (by simp) rfl, ?_, ?_⟩
   ·rintro i c ⟨cc, _, k, j, _, how, _⟩
    exact h.kz how
   ·rintro i i' c ⟨cc, hc, k, j, rfl, how, _⟩ ⟨cc', hc', k', j', rfl, how', _⟩
    rw [how] at how'
    cases how'
    exact eX hnd hc hc'
theorem LP {w : World} {S0 : Nat -> Nat -> Prop} {E : Env} (hT : E.tt.ok P = true) {fn : Func} {rs : List Sh} {G : Gh} {S : St} {a : Act} {w' : World} {y : Tup rs} (hv : (yC E fn rs).val S = some y) (h : Inv ⟨w, S0, fun _ => False, none⟩ G S a w') :
  ∃ v, (results fn a.tmps).run P w' = .ok v w' /\ ∃ (S' : Nat -> Nat -> Prop) (us : List Value), v = pack us /\ NI w.heap.size w' S' true rs y us /\ ∀ b o, S' b o -> (S0 b o \/ w.heap.size <= b) /\ b < w'.heap.size := by
 unfold yC at hv
 simp only [Rd.ak, zB] at hv
 obtain ⟨xs, h1, ok, hok, hv⟩ := hv
 split at hv
 case isFalse => cases hv
 rename_i ht
 obtain ⟨us, hr, hus⟩ := qh hT h h1
 obtain ⟨S', _, hres, hbd⟩ := QU h (sh := true) hus (by simpa using hok) ht hv
 exact ⟨pack us, Bo hr, S', us, rfl, hres, hbd⟩
theorem Kr {E : Env} (hE : dY P E) (hm : P.follows .mixedOrders = true) (an : List (Nat × LA)) {s : Fsp} {fn : Func} (hf : P.funcs[s.fid]? = some fn)
  (hden : ∀ x, adZ E an fn s.ps s.rs x = s.fn x) : J7 P s := by
 intro w S args x y hy ham hargs hS
 rw [<- hden x] at hy
 unfold adZ at hy
 split at hy
 ·cases hy
 ·rename_i c hb
  obtain ⟨G, h⟩ := RP hS (n := fn.ntmps) (vs := JQ s.ps x) (us := args) (fun G hG => yE (by rw [hG]; exact hargs))
  refine calls_of_wp hf hb (iP (hE.at (.none ham)) hm c hy h fun e S' a' w' G' hk h' => ?_)
  have key : (yC E fn s.rs).val S' = some y -> bodyPost P fn (fun e w' => ∃ v, e = .returned v /\ Below w.heap.size w w' /\ ∃ (S' : Nat -> Nat -> Prop) (us : List Value), v = pack us /\ NI w.heap.size w' S' true s.rs y us /\
    ∀ b o, S' b o -> (S b o \/ w.heap.size <= b) /\ b < w'.heap.size) .ret a' w' := by
   intro hv
   obtain ⟨v, h1, h2⟩ := LP hE.1 hv h'
   exact ⟨h'.nodef, v, h1, v, rfl, h'.below.FU fun _ hf => hf, h2⟩
  cases e with
  | normal =>
   change (yC E fn s.rs).runK S' some = some y at hk
   rw [Rd.iF, zB] at hk
   obtain ⟨z, hz, hz'⟩ := hk
   cases hz'
   exact key hz
  | exit id => cases hk
  | ret =>
   change (yC E fn s.rs).runK S' some = some y at hk
   rw [Rd.iF, zB] at hk
   obtain ⟨z, hz, hz'⟩ := hk
   cases hz'
   exact key hz
theorem aat {w : World} {S : Nat -> Nat -> Prop} {ps rs : List Sh} (hsm : sameBox ps rs = true) {x : Tup ps} {vs0 args : List Value} (hargs : jb (fun _ d u => Rep w S d u) 0 ps x (.agg vs0.toArray :: args)) :
  ∀ c rs', rs = c :: rs' -> ∃ x0 : c.t.den, aO (fun _ d u => Rep w S d u) 0 (c.t.cells x0) vs0 := by
 intro c rs' hrs
 cases ps with
 | nil => cases hsm
 | cons p ps =>
  rw [hrs] at hsm
  simp only [sameBox, zI, decide_eq_true_eq] at hsm
  have hs : ShR (fun _ d u => Rep w S d u) 0 p (vU x) (.agg vs0.toArray) := by
   cases ps with
   | nil => cases args with
    | nil => exact hargs
    | cons => exact hargs.elim
   | cons p2 ps => exact hargs.1
  have hcs := ShR.agg (c := p) (Q := fun d u => Rep w S d u) hsm.1 hs
  generalize vU x = x0 at hcs
  obtain ⟨pa, pt⟩ := p
  obtain ⟨ca, ct⟩ := c
  obtain ⟨_, e⟩ := hsm
  cases e
  exact ⟨x0, hcs⟩
theorem LZ {E : Env} (hE : dY P E) (hm : P.follows .mixedOrders = true) (an : List (Nat × LA)) {s : Fsp} {fn : Func} (hf : P.funcs[s.fid]? = some fn)
  (hden : ∀ x, ad1 E an fn s.ps s.rs s.ex s.sh x = s.fn x) : eP P s := by
 intro w S bb vs0 Et args x y hy ham hbN hh hargs hS
 rw [<- hden x] at hy
 unfold ad1 at hy
 split at hy
 case h_2 => cases hy
 rename_i c cs vs hb henc
 split at hy
 case isFalse => cases hy
 rename_i hsame
 obtain ⟨G, h⟩ := XP hS hh (n := fn.ntmps) (cs := cs) (vs := vs) (us := args) (fun G hG => by
  have := yE (G := G) (by rw [hG]; exact hargs)
  rw [henc] at this
  obtain ⟨⟨vs', e, h1⟩, h2⟩ := this
  have e' : vs0 = vs' := by simpa using e
  rw [e']; exact ⟨h1, h2⟩)
 refine calls_of_wp hf hb (iP (hE.at (.box ham hbN)) hm c hy h fun e S' a' w' G' hk h' => ?_)
 have key : (yD E fn s.rs s.ex s.sh).val S' = some y -> bodyPost P fn (fun e w' => ∃ v, e = .returned v /\ lS (fun c => c = bb) w.heap.size w w' /\ qC w w' bb /\ ab7 w.heap.size w' S bb s.ex s.sh s.rs y v) .ret a' w' := by
  intro hv
  obtain ⟨v, h1, h2⟩ := LQ hE.1 hv h' hS hh fun hex => aat (hsame hex) hargs
  exact ⟨h'.nodef, v, h1, v, rfl, h'.below, (h'.fx bb rfl).2 (Array.getElem?_eq_some_iff.1 hh).1, h2⟩
 cases e with
 | normal =>
  change (yD E fn s.rs s.ex s.sh).runK S' some = some y at hk
  rw [Rd.iF, zB] at hk
  obtain ⟨z, hz, hz'⟩ := hk
  cases hz'
  exact key hz
 | exit id => cases hk
 | ret =>
  change (yD E fn s.rs s.ex s.sh).runK S' some = some y at hk
  rw [Rd.iF, zB] at hk
  obtain ⟨z, hz, hz'⟩ := hk
  cases hz'
  exact key hz
end functions
end Go.Abs
