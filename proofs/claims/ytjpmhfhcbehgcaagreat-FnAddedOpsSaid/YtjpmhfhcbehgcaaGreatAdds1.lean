/- Plain laws: an added operation; FnAddedOps. -/
import Derived.Test.YtjpmhfhcbehgcaaGreatNet1
set_option linter.unusedSimpArgs false
set_option linter.unusedVariables false
namespace Go.Proofs.YtjpmhfhcbehgcaaGreat
open Go.Abs Go.Proofs

def seen3 (l : List GOp) : List Int := [(cntBy l 0 : Int), (cntBy l 1 : Int), (cntBy l 2 : Int)]
theorem seenBy3 (a : GReplica) (h : (a.ops.length : Int) ≤ 1048576) : iSeenBy a = some (seen3 a.ops) := by
  unfold iSeenBy
  refine of_exv (count_ex (fun (s : List Int) (i : Nat) => ((a.id, a.ops, s, (i : Int)) : Int × (List GOp) × (List Int) × Int)) 3 (fun i s => s = (List.range i).map fun (k : Nat) => (cntBy a.ops (k : Int) : Int)) (fun r => r = seen3 a.ops) (fun i s hi hs => ?_) (fun s hs => ?_) [] rfl)
  · have hd : decide ((i : Int) < 3) = true := by simp; omega
    have hwi : w64 ((i : Int) + 1) = ((i + 1 : Nat) : Int) := by rw [w64_id (by omega) (by omega)]; omega
    have hsl : s.length = i := by rw [hs]; simp
    refine ⟨s ++ [(cntBy a.ops (i : Int) : Int)], ?_, by rw [hs, List.range_succ, List.map_append]; rfl⟩
    simp only [hd, cond_true, iCountBy_ok a.ops _ h, Option.bind_some, hwi]
    rw [gd_ok (by simp; omega), Option.bind_some]
  · have hd : decide (((3 : Nat) : Int) < 3) = false := rfl
    simp only [hd, cond_false]
    exact ⟨_, rfl, hs⟩
/-- What adding an operation comes to. -/
theorem addOp_full (a : GReplica) (b : GOp) (ha : Fit B20 (.base .replica) a) (hb : Fit B20 (.base .op) b) :
    ∃ w ok, sAddOp a b = some (w, ok) ∧ iAddOp a b = some (w, ok) ∧ ((ok = false ∧ w = a) ∨ (ok = true ∧ ∃ x, w = GReplica.mk a.id (a.ops ++ [x]) ∧ x.by_ = a.id ∧ x.kind = b.kind ∧ x.seen = seen3 a.ops ∧ OpF x ∧ LogP (a.ops ++ [x]))) := by
  have fa := ha; rw [fit_replica] at fa
  have fb := hb; rw [fit_op] at fb
  obtain ⟨b0, b1, b2, b3, b4, b5, b6, b7, b8, b9⟩ := fb
  have hl := list20 fa.2
  have hll := lim20 hl
  obtain ⟨t, t1, t2⟩ := lastTime_eq a.ops hll
  obtain ⟨w, s1, s2, s3, s4⟩ := seenBy_eq2 a hll
  have hw : w = seen3 a.ops := Option.some.inj (s2.symm.trans (seenBy3 a hl))
  obtain ⟨v, v1, v2, v3⟩ := validReplica_len a ha
  have g1 : ∀ x : GOp, gd (a.ops.length + [x].length) = some () := fun x => gd_ok (by simp; omega)
  unfold sAddOp iAddOp
  rw [sL41Copy_ok b hb, t1, s1, sL43Copy_ok a ha, v1, iCopyReplica_ok a ha, v2, iCopyOp_ok b hb, t2, s2]
  simp only [Option.bind_some, g1]
  cases v with
  | false => exact ⟨a, false, rfl, rfl, .inl ⟨rfl, rfl⟩⟩
  | true =>
    have h60 := v3 rfl
    have fx : Fit B20 (.base .op) (GOp.mk (w64 (t + 1)) a.id b.kind w b.edit b.src b.dst b.cell b.version b.reads) := by
      rw [fit_op]
      refine ⟨int0 (w64_wf _), fa.1, b2, mkList20 (show (w.length : Int) ≤ 1048576 by omega) fun x hx d hd => ?_, b4, b5, b6, b7, b8, b9⟩
      have e : d = .int .i64 x := by simpa [Ty.cells, Base.cells] using hd
      subst e
      rcases s4 x hx with rfl | ⟨n, rfl⟩
      · exact int0 (wf_small (by omega) (by omega))
      · exact int0 (w64_wf n)
    have fn : Fit B20 (.base .replica) (GReplica.mk a.id (a.ops ++ [GOp.mk (w64 (t + 1)) a.id b.kind w b.edit b.src b.dst b.cell b.version b.reads])) := by
      rw [fit_replica]
      refine ⟨fa.1, mkList20 (by simp; omega) fun x hx => ?_⟩
      rcases List.mem_append.1 hx with hx | hx
      · exact fa.2.list_mem x hx
      · simp only [List.mem_singleton] at hx; subst hx; exact fx
    obtain ⟨u, u1, u2, _⟩ := validReplica_len _ fn
    obtain ⟨u', u3, u4⟩ := validReplica_P _ fn
    have e : u' = u := Option.some.inj (u3.symm.trans u1)
    subst e
    simp only [Bool.not_true, cond_false, u1, u2, Option.bind_some]
    cases u' with
    | false => exact ⟨a, false, rfl, rfl, .inl ⟨rfl, rfl⟩⟩
    | true => exact ⟨_, true, rfl, rfl, .inr ⟨rfl, _, rfl, rfl, rfl, hw, fx, u4 rfl⟩⟩
theorem bent43_dr {c : GCur} (h : CurOk c) : Dr (sL43Bent c) fun r => Fit B20 (.base .replica) r ∧ r.ops.length ≤ 1000 := by
  unfold sL43Bent
  refine Dr.bind (net_dr h 10 (by omega) (by omega)) fun c1 rs k1 p1 => ?_
  obtain ⟨U, hI⟩ := p1
  refine Dr.bind (below_dr k1 3) fun c2 n k2 p2 => ?_
  have hn := p2.2 (by omega)
  obtain ⟨k, rfl⟩ := nat_of p2.1
  have hrn := hI.n
  obtain ⟨r, er, _, hr⟩ := idx_get (xs := rs) (n := k) (by omega)
  have fr := hI.rfit hr
  have lr := hI.log k r hr
  have hlen := lr.len
  have fr' := fr; rw [fit_replica] at fr'
  simp only [er, Option.bind_some, Int.toNat_natCast, if_true, hr]
  refine Dr.bind (below_dr k2 12) fun c3 q k3 p3 => Dr.bif (fun _ => ?_) fun _ => Dr.bif (fun _ => ?_) fun _ => Dr.bif (fun _ => ?_) fun _ => .ret k3 ⟨fr, by omega⟩
  · refine Dr.bind (pickInt_dr k3 _ (by simp)) fun c4 m k4 p4 => .ret k4 ⟨?_, by show r.ops.length ≤ 1000; omega⟩
    rw [fit_replica]
    simp at p4
    have om : I64 m := i64 (by omega) (by omega)
    exact ⟨om, fr'.2⟩
  · refine Dr.bind (bent41_dr k3) fun c4 o k4 fo => Dr.gd (by simp; omega) (.ret k4 ⟨?_, by show (r.ops ++ [o]).length ≤ 1000; simp; omega⟩)
    rw [fit_replica]
    refine ⟨fr'.1, mkList20 (by simp; omega) fun x hx => ?_⟩
    rcases List.mem_append.1 hx with hx | hx
    · exact fr'.2.list_mem x hx
    · rw [List.mem_singleton.1 hx]; exact fo
  · have z0 : I64 0 := i64 (by omega) (by omega)
    have z2 : I64 2 := i64 (by omega) (by omega)
    have fo : Fit B20 (.base .op) (GOp.mk 0 0 2 [] (GEdit.mk 0 0 (GCell.mk 0 0 0 [] [] 0)) [97] [120] 0 0 []) :=
      opF_iff.2 ⟨z0, z0, z2, ints_fit (by simp) (fun x hx => (by cases hx)), editF z0 z0 (cellF_mk.2 ⟨z0, z0, z0, strB (by simp), strB (by simp), z0⟩), strB (by simp), strB (by simp), z0, z0, mkList20 (by simp) fun x hx => (by cases hx)⟩
    have fin : ∀ (c4 : GCur) (s : GReplica), CurOk c4 → Fit B20 (.base .replica) s → (s.ops.length : Int) ≤ 60 → ∃ z : GCur × GReplica, (c4, GReplica.mk s.id s.ops) = z ∧ CurOk z.1 ∧ Fit B20 (.base .replica) z.2 ∧ z.2.ops.length ≤ 1000 :=
      fun c4 s k4 fs ls => ⟨_, rfl, k4, fs, by show s.ops.length ≤ 1000; omega⟩
    refine Dr.of (loop_ex (fun (z : (GCur × GReplica) × Nat) => ((z.1.1.b, z.1.1.i, z.1.1.h, 0, [], z.1.2.id, z.1.2.ops, (z.2 : Int)) : (List Int) × Int × Int × Int × (List GOp) × Int × (List GOp) × Int))
      (fun m z => m + z.2 = 70 ∧ CurOk z.1.1 ∧ Fit B20 (.base .replica) z.1.2 ∧ (z.1.2.ops.length : Int) ≤ 60) (fun (z : GCur × GReplica) => CurOk z.1 ∧ Fit B20 (.base .replica) z.2 ∧ z.2.ops.length ≤ 1000) (fun m z hI => ?_) 70 ((c3, r), 0) ⟨rfl, k3, fr, hlen⟩)
    obtain ⟨⟨zc, s⟩, i⟩ := z
    obtain ⟨hm, kz, fs, ls⟩ := hI
    have hm : m + i = 70 := hm
    have kz : CurOk zc := kz
    have fs : Fit B20 (.base .replica) s := fs
    have ls : (s.ops.length : Int) ≤ 60 := ls
    by_cases hi : i < 70
    case neg =>
      have hd : decide ((i : Int) < 70) = false := by simp; omega
      simp only [hd, cond_false]
      obtain ⟨z, e, hz⟩ := fin zc s kz fs ls
      exact .inr ⟨z, by rw [← e], hz⟩
    have hd : decide ((i : Int) < 70) = true := by simp; omega
    obtain ⟨c5, y, e5, k5, _, _⟩ := below_ok (c := GCur.mk zc.b zc.i zc.h) kz 3
    simp only [hd, cond_true, e5, Option.bind_some]
    cases hlt : decide ((s.ops.length : Int) < w64 (59 + y)) with
    | false =>
      simp only [cond_false]
      obtain ⟨z, e, hz⟩ := fin c5 s k5 fs ls
      exact .inr ⟨z, by rw [← e], hz⟩
    | true =>
      obtain ⟨w, ok, ea, hw⟩ := addOp_net s _ fs fo
      have fw : Fit B20 (.base .replica) w ∧ (w.ops.length : Int) ≤ 60 := by
        rcases hw with rfl | ⟨x, rfl, _, fx, hl⟩
        · exact ⟨fs, ls⟩
        · have fs' := fs; rw [fit_replica] at fs'
          refine ⟨?_, hl.len⟩
          rw [fit_replica]
          refine ⟨fs'.1, mkList20 (by have := hl.len; show ((s.ops ++ [x]).length : Int) ≤ 1048576; omega) fun u hu => ?_⟩
          rcases List.mem_append.1 hu with hu | hu
          · exact fs'.2.list_mem u hu
          · rw [List.mem_singleton.1 hu]; exact fx
      simp only [cond_true, show GReplica.mk s.id s.ops = s from rfl, ea, Option.bind_some]
      cases h60 : ((w.ops.length : Int) == 60) with
      | true =>
        simp only [cond_true]
        exact .inr ⟨(c5, w), rfl, k5, fw.1, by show w.ops.length ≤ 1000; omega⟩
      | false =>
        simp only [cond_false]
        have hwi : w64 ((i : Int) + 1) = ((i + 1 : Nat) : Int) := by rw [w64_id (by omega) (by omega)]; omega
        exact .inl ⟨((c5, w), i + 1), m - 1, by omega, ⟨by omega, k5, fw.1, fw.2⟩, by rw [hwi]⟩
theorem drawAdd_ok (a : List Int) (ha : (a.length : Int) ≤ 1048576) : ∃ r o, sDrawAddOp a = some (r, o) ∧ Fit B20 (.base .replica) r ∧ r.ops.length ≤ 1000 ∧ OpF o := by
  obtain ⟨c0, e0, k0⟩ := new_ok a ha
  obtain ⟨c1, r, e1, k1, f1, l1⟩ := bent43_dr k0
  obtain ⟨c2, o, e2, k2, f2⟩ := bent41_dr k1
  exact ⟨r, o, by unfold sDrawAddOp; simp only [e0, e1, e2, Option.bind_some], f1, l1, f2⟩
theorem cntBy_snoc (l : List GOp) (x : GOp) (k : Int) : cntBy (l ++ [x]) k = cntBy l k + (if x.by_ = k then 1 else 0) := by
  unfold cntBy
  rw [List.filter_append, List.length_append]
  by_cases h : x.by_ = k <;> simp [h]
theorem cntBy_take_le (l : List GOp) (i : Nat) (k : Int) : cntBy (l.take i) k ≤ cntBy l k := by
  unfold cntBy
  exact ((List.take_sublist i l).filter _).length_le
theorem cntBy_take_lt {l : List GOp} {i : Nat} {x : GOp} (h : l[i]? = some x) : cntBy (l.take i) x.by_ < cntBy l x.by_ := by
  have h1 := cntBy_take_le l (i + 1) x.by_
  rw [take_snoc h, cntBy_snoc, if_pos rfl] at h1
  omega
theorem seen3_get (l : List GOp) {k : Int} (h0 : 0 ≤ k) (h2 : k ≤ 2) : idx (seen3 l) k = some (cntBy l k : Int) := by
  have : k = 0 ∨ k = 1 ∨ k = 2 := by omega
  rcases this with rfl | rfl | rfl <;> rfl
theorem sCountBy_cnt (a : List GOp) (b : Int) (h : (a.length : Int) ≤ 1048576) : sCountBy a b = some (cntBy a b : Int) := by
  obtain ⟨v, e1, e2⟩ := countBy_eq a b (lim20 h)
  rw [e1, ← e2, iCountBy_ok a b h]
theorem hasSeen_new {l : List GOp} {x : GOp} {i : Nat} {y : GOp} (hs : x.seen = seen3 l) (hy : l[i]? = some y) (hb : 0 ≤ y.by_ ∧ y.by_ ≤ 2) (hl : (l.length : Int) ≤ 60) : sHasSeen x (l ++ [x]) (i : Int) = some true := by
  have hi := (List.getElem?_eq_some_iff.1 hy).1
  have hl1 : (l ++ [x]).length = l.length + 1 := by simp
  have hy' : (l ++ [x])[i]? = some y := by rw [List.getElem?_append_left hi]; exact hy
  have h1 : w64 (((l ++ [x]).length : Int) - 1) = (l.length : Int) := by rw [hl1, w64_id (by omega) (by omega)]; omega
  have h2 : w64 ((x.seen.length : Int) - 1) = 2 := by rw [hs]; rfl
  have htk : (l ++ [x]).take i = l.take i := List.take_append_of_le_length (by omega)
  unfold sHasSeen
  rw [sL1In_ok, h1, decide_eq_true (show (0 : Int) ≤ (i : Int) by omega), decide_eq_true (show (i : Int) ≤ (l.length : Int) by omega)]
  simp only [Bool.and_self, Bool.not_true, cond_false, Option.bind_some, idx_nat, hy', sL1In_ok, h2, decide_eq_true hb.1, decide_eq_true hb.2, cutL_to (l ++ [x]) i (by omega), htk]
  rw [sCountBy_cnt _ _ (by rw [List.length_take]; omega), Option.bind_some, hs, seen3_get l hb.1 hb.2, Option.bind_some]
  have := cntBy_take_lt hy
  rw [decide_eq_true (by omega)]
theorem missing_new {l : List GOp} {x : GOp} (id : Int) (hl : LogP (l ++ [x])) (hf : ∀ y, y ∈ l ++ [x] → OpF y) : iMissingOps (GReplica.mk id (l ++ [x])) (seen3 l) = some [x] := by
  have h60 := hl.len
  have hlen : ((l ++ [x]).length : Int) = (l.length : Int) + 1 := by simp
  generalize hL : l ++ [x] = L at *
  have hlim : L.length < 4611686018427387904 := by omega
  unfold iMissingOps
  refine of_exv (list_ex (fun (s : List GOp) (i : Nat) => ((seen3 l, id, L, s, L, (L.length : Int), (i : Int)) : (List Int) × Int × (List GOp) × (List GOp) × (List GOp) × Int × Int)) L (fun i s => s = if i ≤ l.length then [] else [x]) (fun r => r = [x]) (fun i y s hy hI => .inl ?_) (fun s hI => ?_) [] (by simp))
  · have hi := (List.getElem?_eq_some_iff.1 hy).1
    have hb := (op_valid (hl.op y (List.mem_of_getElem? hy))).2
    have h3 : decide (y.by_ < ((seen3 l).length : Int)) = true := by
      show decide (y.by_ < 3) = true
      simp; omega
    have hle : i ≤ l.length := by omega
    have htk : L.take i = l.take i := by rw [← hL]; exact List.take_append_of_le_length hle
    have hsI : s = [] := by rw [hI, if_pos hle]
    subst hsI
    simp only [dec_lt hy, cond_true, idx_nat, hy, Option.bind_some, decide_eq_true (show y.by_ ≥ 0 from hb.1), h3, cutL_to L i (by omega), htk, iCountBy_ok (l.take i) y.by_ (by rw [List.length_take]; omega), seen3_get l hb.1 hb.2, w_succ hy hlim]
    by_cases hil : i < l.length
    · have hy' : l[i]? = some y := by rw [← hL, List.getElem?_append_left hil] at hy; exact hy
      have := cntBy_take_lt hy'
      rw [decide_eq_true (by omega)]
      exact ⟨[], rfl, by rw [if_pos (by omega)]⟩
    · have hil : i = l.length := by omega
      have hyx : y = x := by rw [← hL, hil, List.getElem?_append_right (Nat.le_refl _)] at hy; simpa using hy.symm
      rw [decide_eq_false (by rw [hil, List.take_length]; omega)]
      simp only [Bool.not_false, cond_true, iCopyOp_ok y (hf y (List.mem_of_getElem? hy)), Option.bind_some]
      rw [gd_ok (by simp), Option.bind_some]
      exact ⟨[y], rfl, by rw [if_neg (by omega), hyx]⟩
  · simp only [nlt_self, cond_false]
    exact ⟨_, rfl, by rw [hI, if_neg (by omega)]⟩
theorem law_FnAddedOps (a : List Int) (ha : FitD B47 (.list (.base .u8) a)) : FnAddedOps a = some true := by
  refine big_then ha fun hl => ?_
  obtain ⟨r, o, e1, fr, lr, fo⟩ := drawAdd_ok a hl
  obtain ⟨w, ok, e2, e3, hw⟩ := addOp_full r o fr fo
  have fr' := fr; rw [fit_replica] at fr'
  simp only [e1, e2, e3, Option.bind_some, beq_self_eq_true, Bool.not_true, cond_false]
  rcases hw with ⟨rfl, rfl⟩ | ⟨rfl, x, rfl, hby, hkind, hseen, fx, hlog⟩
  · simp only [Bool.not_false, cond_true, sameOps_self w.ops lr (fun x hx => fr'.2.list_mem x hx), Option.bind_some, beq_self_eq_true]
  have h60 := hlog.len
  have hl1 : ((r.ops ++ [x]).length : Int) = (r.ops.length : Int) + 1 := by simp
  have hx : (r.ops ++ [x])[r.ops.length]? = some x := by rw [List.getElem?_append_right (Nat.le_refl _)]; simp
  have hfit : ∀ y, y ∈ r.ops ++ [x] → OpF y := fun y hy => by
    rcases List.mem_append.1 hy with hy | hy
    · exact fr'.2.list_mem y hy
    · rw [List.mem_singleton.1 hy]; exact fx
  simp only [Bool.not_true, cond_false, idx_nat, hx, Option.bind_some, Int.toNat_natCast]
  refine of_exv (list_ex (fun (_ : Unit) (i : Nat) => ((r.id, r.ops, o.time, o.by_, o.kind, o.seen, o.edit.kind, o.edit.pos, o.edit.cell.id, o.edit.cell.version, o.edit.cell.kind, o.edit.cell.name, o.edit.cell.code, o.edit.cell.n, o.src, o.dst, o.cell, o.version, o.reads, r.id, r.ops ++ [x], (r.ops.length : Int), x.time, x.by_, x.kind, x.seen, x.edit.kind, x.edit.pos, x.edit.cell.id, x.edit.cell.version, x.edit.cell.kind, x.edit.cell.name, x.edit.cell.code, x.edit.cell.n, x.src, x.dst, x.cell, x.version, x.reads, (i : Int)) : Int × (List GOp) × Int × Int × Int × (List Int) × Int × Int × Int × Int × Int × Str × Str × Int × Str × Str × Int × Int × (List GRead) × Int × (List GOp) × Int × Int × Int × Int × (List Int) × Int × Int × Int × Int × Int × Str × Str × Int × Str × Str × Int × Int × (List GRead) × Int)) r.ops (fun _ _ => True) (fun z => z = true) (fun i y _ hy _ => .inl ⟨(), ?_, trivial⟩) (fun _ _ => ?_) () trivial)
  · have hi := (List.getElem?_eq_some_iff.1 hy).1
    have hm := List.mem_of_getElem? hy
    have hlt : ltOp y x = true := (List.pairwise_append.1 hlog.sorted).2.2 y hm x (by simp)
    have hy' : (r.ops ++ [x])[i]? = some y := by rw [List.getElem?_append_left hi]; exact hy
    have hb := (op_valid (hlog.op y (List.mem_append_left _ hm))).2
    have eta : GOp.mk x.time x.by_ x.kind x.seen (GEdit.mk x.edit.kind x.edit.pos (GCell.mk x.edit.cell.id x.edit.cell.version x.edit.cell.kind x.edit.cell.name x.edit.cell.code x.edit.cell.n)) x.src x.dst x.cell x.version x.reads = x := rfl
    simp only [dec_lt hy, cond_true, idx_nat, hy, Option.bind_some, eta, sOpBefore_lt, hlt, Bool.not_true, cond_false, hy', Int.toNat_natCast, sEqualOp_ok y y (fr'.2.list_mem y hm), eqd_self, hasSeen_new hseen hy hb (by omega), w_succ hy (show r.ops.length < 4611686018427387904 by omega)]
  · have e4 := seenBy3 (GReplica.mk r.id r.ops) (show (r.ops.length : Int) ≤ 1048576 by omega)
    have e5 := missing_new r.id hlog hfit
    simp only [nlt_self, cond_false, hby, hkind, beq_self_eq_true, cond_true, e4, e5, Option.bind_some]
    exact ⟨_, rfl, rfl⟩
end Go.Proofs.YtjpmhfhcbehgcaaGreat
