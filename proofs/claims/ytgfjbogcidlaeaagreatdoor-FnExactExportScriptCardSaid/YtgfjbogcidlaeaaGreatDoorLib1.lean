import Derived.Test.YtgfjbogcidlaeaaGreatDoorS3
import Derived.Test.YtgfjbogcidlaeaaGreatDoorLib0
import Derived.Shelf.Strconv.Itoa3
import Derived.Shelf.Strings.OnBuilder
import Derived.Shelf.Strings.Prefix
import Derived.Shelf.Strings.Split
import Derived.Shelf.Small.Strs
import Derived.Shelf.Sort.Plain
import Derived.Shelf.Slices.In.SortNone2
/- Functions of the library, as the evaluator's contracts. -/
set_option linter.unusedSimpArgs false
set_option linter.unusedVariables false
namespace Go.Abs
open Go.RowKit Go.Sort Go.Proofs Go.Shelf
theorem below_grow (w : World) (k : Nat) (os : Array Obj) : Below w.heap.size w (grow (w.drewN k) os) :=
 ⟨rfl, rfl, rfl, by simp [grow], fun i hi => by
  show (w.heap ++ os)[i]? = _
  rw [Array.getElem?_append_left hi]⟩
theorem Xt {B : Nat} {w' : World} {S : Nat -> Nat -> Prop} (s : Str) : vF B w' S true [⟨false, .base .str⟩] s (.string ⟨s.toArray⟩) :=
 ⟨[_], rfl, fun _ _ => False, ⟨Ow.str (w := w') (S := fun _ _ => False) (deep := true) ⟨s.toArray⟩ _, trivial⟩, fun _ _ h => h.elim, fun _ _ _ h => h.elim⟩
theorem Xu {B : Nat} {w' : World} {S : Nat -> Nat -> Prop} (n : Int) : vF B w' S true [⟨false, .base .int⟩] n (.int .i64 n) :=
 ⟨[_], rfl, fun _ _ => False, ⟨.int _ _ _, trivial⟩, fun _ _ h => h.elim, fun _ _ _ h => h.elim⟩
theorem Uz {B : Nat} {w' : World} {S : Nat -> Nat -> Prop} (b : Bool) : vF B w' S true [⟨false, .base .bool⟩] b (.bool b) :=
 ⟨[_], rfl, fun _ _ => False, ⟨.bool _ _, trivial⟩, fun _ _ h => h.elim, fun _ _ _ h => h.elim⟩
theorem KO {B : Nat} {w' : World} {S : Nat -> Nat -> Prop} (n : Int) (b : Bool) : vF B w' S true [⟨false, .base .int⟩, ⟨false, .base .bool⟩] (n, b) (.tuple #[.int .i64 n, .bool b]) :=
 ⟨[.int .i64 n, .bool b], rfl, fun _ _ => False, ⟨⟨.int _ _ _, trivial⟩, ⟨.bool _ _, trivial⟩⟩, fun _ _ h => h.elim, fun _ _ _ h => h.elim⟩
theorem nS {w : World} {S : Nat -> Nat -> Prop} {s : Str} {u : Value} (h : Rep w S (.str s) u) : u = .string ⟨s.toArray⟩ := by
 generalize hd : D.str s = d at h
 cases h <;> cases hd
 rfl
theorem lV {w : World} {S : Nat -> Nat -> Prop} {k : IntKind} {n : Int} {u : Value} (h : Rep w S (.int k n) u) : u = .int k n := by
 generalize hd : D.int k n = d at h
 cases h <;> cases hd
 rfl
theorem U0 {P : Program} {ρ : Ren} (L : LaysM.n171 P ρ) (htab : ∀ w, amb w -> Go.Lib.TabIs P w "internal/strconv.uint64pow10" .u64 Go.Lib.pow10Tab) :
  Sound P { fid := ρ.f 171, ps := [⟨false, .base .int⟩], rs := [⟨false, .base .str⟩], ex := true, fn := fun x => yj x } := by
 intro w S args x y h ha hr hS
 rcases args with _ | ⟨u, _ | ⟨u2, r⟩⟩
 ·exact hr.elim
 ·have hu := lV (show Rep w S (.int .i64 x) u from hr.1)
  subst hu
  have h : yj x = some y := h
  unfold yj at h
  split at h
  case isFalse => cases h
  rename_i hx
  cases h
  refine (Any.strconv_Itoa L x hx.1 hx.2 w (htab w ha)).mono ?_
  rintro e w' ⟨rfl, k, os, rfl⟩
  exact ⟨_, rfl, below_grow w k os, Xt _⟩
 ·exact hr.elim
theorem Qp {P : Program} {ρ : Ren} (L : Lays.n146 P ρ) (hi9 : (P.info? (ρ.t 9)).map (fun i => (i.zero, i.size, i.bytes)) = some (some (.string ByteArray.empty), 1, 16)) (hmax : ∀ w, amb w -> ∃ m, w.cell? ⟨(ρ.g 1), 0, none⟩ = some (.int .i64 m)) :
  Sound P { fid := ρ.f 146, ps := [⟨false, .base .str⟩, ⟨false, .base .str⟩], rs := [⟨false, .list (.base .str)⟩], ex := true, fn := fun x => jc x.1 x.2 } := by
 intro w S args x y h ha hr hS
 rcases args with _ | ⟨u, _ | ⟨u2, _ | ⟨u3, r⟩⟩⟩
 ·exact hr.elim
 ·exact hr.2.elim
 ·have hu := nS (show Rep w S (.str x.1) u from hr.1.1)
  have hu2 := nS (show Rep w S (.str x.2) u2 from hr.2.1)
  subst hu; subst hu2
  have h : jc x.1 x.2 = some y := h
  unfold jc at h
  split at h
  case isFalse => cases h
  rename_i hx
  obtain ⟨m, hm⟩ := hmax w ha
  have z1 : (⟨x.1.toArray⟩ : ByteArray).size = x.1.length := by show x.1.toArray.size = _; simp
  have z2 : (⟨x.2.toArray⟩ : ByteArray).size = x.2.length := by show x.2.toArray.size = _; simp
  have h1 : 1 <= (⟨x.2.toArray⟩ : ByteArray).size := by rw [z2]; exact hx.2
  have hk := Lib.splitB_all ⟨x.2.toArray⟩ h1 0 _ ⟨x.1.toArray⟩ rfl
  have hle := Lib.countB_le ⟨x.2.toArray⟩ h1 (⟨x.1.toArray⟩ : ByteArray).size ⟨x.1.toArray⟩ (Nat.le_refl _)
  have hd := Lib.splitB_data ⟨x.2.toArray⟩ 0 (Lib.countB ⟨x.1.toArray⟩ ⟨x.2.toArray⟩) ⟨x.1.toArray⟩
  have hy : (Lib.splitB ⟨x.2.toArray⟩ 0 (Lib.countB ⟨x.1.toArray⟩ ⟨x.2.toArray⟩) ⟨x.1.toArray⟩).map (·.data.toList) = y := by
   cases h
   rw [hd]
   rfl
  refine (Any.strings_Split L hi9 ⟨x.1.toArray⟩ ⟨x.2.toArray⟩ m w (by rw [z1]; exact hx.1) hm h1).mono ?_
  generalize Lib.splitB ⟨x.2.toArray⟩ 0 (Lib.countB ⟨x.1.toArray⟩ ⟨x.2.toArray⟩) ⟨x.1.toArray⟩ = bs at hk hy
  generalize Lib.countB ⟨x.1.toArray⟩ ⟨x.2.toArray⟩ = n at hk hle
  subst hy
  rintro e w' ⟨rfl, rfl⟩
  have hsz : (w.alloc (.cells (bs.map Value.string).toArray (ρ.t 9))).heap.size = w.heap.size + 1 := Array.size_push _
  refine ⟨_, rfl, (Below.refl _ _).alloc (Nat.le_refl _) _, [_], rfl, fun i c => i = 0 /\ c = w.heap.size, ⟨?_, trivial⟩, fun i c hc => by rw [hc.2, hsz]; omega, fun i i' c h1 h2 => h1.1.trans h2.1.symm⟩
  ·have hl : (bs.map (·.data.toList)).length = n + 1 := by rw [List.length_map, hk]
   have key := Ow.list (w := w.alloc (.cells (bs.map Value.string).toArray (ρ.t 9))) (S := fun _ _ => False) (deep := true) (.base .str) (bs.map (·.data.toList)) w.heap.size (n + 1) (bs.map Value.string).toArray (ρ.t 9) (fun i _ => .string (bs[i]!)) (fun _ _ _ => False) (fun c => 0 = 0 /\ c = w.heap.size)
    (Array.getElem?_push_size) (by rw [hl]; exact Nat.le_refl _) (by rw [z1] at hle; have := hx.1; unfold maxLen; omega) (by show (bs.map Value.string).toArray.size = (n + 1) * 1; simp [hk]) ⟨rfl, rfl⟩
    (fun i s j d hs hd => ?_) (fun i s j d hs hd => ?_) (fun _ _ _ h => h.elim) (fun _ _ _ _ _ h => h.elim)
   ·rw [hl] at key
    exact key
   ·cases j with
    | succ j => simp [Ty.cells, Base.cells] at hd
    | zero =>
     have e : i * (Ty.base .str).size + 0 = i := by show i * 1 + 0 = i; omega
     have hi : i < bs.length := by
      have := (zC.1 hs).1
      simpa using this
     rw [e]
     simp [hi]
   ·cases j with
    | succ j => simp [Ty.cells, Base.cells] at hd
    | zero =>
     simp only [Ty.cells, Base.cells, List.getElem?_cons_zero, zD] at hd
     subst hd
     have hi : i < bs.length := by
      have := (zC.1 hs).1
      simpa using this
     have hs' : bs[i].data.toList = s := by
      rw [List.getElem?_map, zF hi] at hs
      simpa using hs
     rw [getElem!_pos bs i hi, <- hs']
     exact Ow.str _ _
 ·exact hr.2.elim
theorem FM {P : Program} {ρ : Ren} (L : Lays.n99 P ρ) :
  Sound P { fid := ρ.f 99, ps := [⟨false, .base .str⟩, ⟨false, .base .str⟩], rs := [⟨false, .base .bool⟩], ex := true, fn := fun x => gU x.1 x.2 } := by
 intro w S args x y h ha hr hS
 rcases args with _ | ⟨u, _ | ⟨u2, _ | ⟨u3, r⟩⟩⟩
 ·exact hr.elim
 ·exact hr.2.elim
 ·have hu := nS (show Rep w S (.str x.1) u from hr.1.1)
  have hu2 := nS (show Rep w S (.str x.2) u2 from hr.2.1)
  subst hu; subst hu2
  have h : some (Go.Lib.hasPrefix x.1 x.2) = some y := h
  cases h
  refine (Any.strings_HasPrefix L ⟨x.1.toArray⟩ ⟨x.2.toArray⟩ w).mono ?_
  rintro e w' ⟨rfl, rfl⟩
  exact ⟨_, rfl, Below.refl _ _, Uz _⟩
 ·exact hr.2.elim
theorem Fv {P : Program} {ρ : Ren} (L : Lays.n137 P ρ) :
  Sound P { fid := ρ.f 137, ps := [⟨false, .base .str⟩, ⟨false, .base .u8⟩], rs := [⟨false, .base .int⟩], ex := true, fn := fun x => dG x.1 x.2 } := by
 intro w S args x y h ha hr hS
 rcases args with _ | ⟨u, _ | ⟨u2, _ | ⟨u3, r⟩⟩⟩
 ·exact hr.elim
 ·exact hr.2.elim
 ·have hu := nS (show Rep w S (.str x.1) u from hr.1.1)
  have hu2 := lV (show Rep w S (.int .u8 x.2) u2 from hr.2.1)
  subst hu; subst hu2
  have h : some (Go.Lib.indexByte x.1 (Int.toNat x.2).toUInt8) = some y := h
  cases h
  refine (Any.strings_IndexByte L ⟨x.1.toArray⟩ x.2 w).mono ?_
  rintro e w' ⟨rfl, rfl⟩
  exact ⟨_, rfl, Below.refl _ _, Xu _⟩
 ·exact hr.2.elim
theorem adL {w : World} {S : Nat -> Nat -> Prop} {deep : Bool} {s : Str} {u : Value} {fp : Nat -> Prop} (h : Ow w S deep (.str s) u fp) : u = .string ⟨s.toArray⟩ := by
 generalize hd : D.str s = d at h
 cases h with
 | int => cases hd
 | bool => cases hd
 | str v => cases hd; rfl
 | nil => cases hd
 | ro d v fp _ h' => subst hd; exact nS h'
 | list => cases hd
set_option maxHeartbeats 1000000 in
theorem Df {P : Program} {ρ : Ren} (L : Lays.n192 P ρ) (w : World) (S : Nat -> Nat -> Prop) (deep : Bool) (u : Value) (xs ys : List Str) (fp : Nat -> Prop) (h : gm xs = some ys)
  (hO : OwT w S deep true (.base .str) xs u fp) (hfp : ∀ c, fp c -> c < w.heap.size) (hS : ∀ b o, S b o -> b < w.heap.size) :
  Calls P (ρ.f 192) #[u] w fun e w' => e = .returned (.tuple #[]) /\ Off (fun c => fp c /\ ∀ o, ¬ S c o) w w' /\ OwT w' S deep true (.base .str) ys u fp := by
 unfold gm at h
 obtain ⟨_, g1, h⟩ := zB.1 h
 have l1 := fM g1
 have h := (Option.some.inj h).symm
 rcases hO with ⟨rfl, hx⟩ | ⟨b, cap, arr, E', vs, fps, rfl, hb, hcap, hmax, hsz, hfb, hc, hr, hf, hdis, hs0⟩
 ·subst hx
  refine (Any.sort_Strings_none L none 0 w).mono ?_
  rintro e w' ⟨rfl, rfl⟩
  refine ⟨rfl, ⟨rfl, rfl, rfl, Nat.le_refl _, fun c hc _ => rfl⟩, .inl ⟨rfl, ?_⟩⟩
  rw [h]; simp
 have hbs : ∀ o, ¬ S b o := fun o ho => by cases (hs0 o ho).1
 have hblt : b < w.heap.size := hfp b hfb
 have hsz1 : arr.size = cap := by rw [hsz]; exact Nat.mul_one _
 have hcs : ∀ (i : Nat) (s : Str), xs[i]? = some s -> arr[i]? = some (.string ⟨s.toArray⟩) := by
  intro i s hs
  have q := hc i s 0 (.str s) hs rfl
  have q2 := hr i s 0 (.str s) hs rfl
  have e : i * (Ty.base .str).size + 0 = i := by show i * 1 + 0 = i; omega
  rw [e] at q
  have q3 : vs i 0 = .string ⟨s.toArray⟩ := adL q2
  rw [q, q3]
 have hH : Holds encStr w b 0 xs.toArray := by
  intro j hj
  have hj' : j < xs.length := by simpa using hj
  have e : w.cell? ⟨b, 0 + j, none⟩ = arr[j]? := by simp [World.cell?, hb]
  refine ⟨?_, ?_⟩
  ·rw [e, hcs j _ (zF hj')]
   rw [getElem!_pos _ j hj]
   simp [encStr]
  ·unfold World.frozen?
   simp only [hb]
   simp
 refine (Any.sort_Strings L b 0 cap xs w hH hblt (by omega)).mono ?_
 rintro e w' ⟨rfl, n, os, rfl⟩
 have hys : ys = xs.mergeSort fun x y => decide (x <= y) := h
 have hyl : ys.length = xs.length := by rw [hys]; exact List.length_mergeSort _
 have hheap : ∀ c, c < w.heap.size -> c ≠ b -> (grow (putRow encStr (Sort.ahead w n) b 0 (xs.mergeSort fun x y => decide (x <= y)).toArray) os).heap[c]? = w.heap[c]? := by
  intro c hc1 hcb
  show ((putRow encStr (Sort.ahead w n) b 0 _).heap ++ os)[c]? = _
  rw [Array.getElem?_append_left (by rw [size_putRow]; exact hc1)]
  show (w.heap.modify b _)[c]? = _
  rw [Array.getElem?_modify, if_neg (Ne.symm hcb)]
 have hheapb : (grow (putRow encStr (Sort.ahead w n) b 0 (xs.mergeSort fun x y => decide (x <= y)).toArray) os).heap[b]? = some (.cells (putCells encStr 0 (xs.mergeSort fun x y => decide (x <= y)).toArray arr) E' (0, 0)) := by
  show ((putRow encStr (Sort.ahead w n) b 0 _).heap ++ os)[b]? = _
  rw [Array.getElem?_append_left (by rw [size_putRow]; exact hblt)]
  show (w.heap.modify b _)[b]? = _
  rw [Array.getElem?_modify, if_pos rfl, hb]; rfl
 have hsize : w.heap.size <= (grow (putRow encStr (Sort.ahead w n) b 0 (xs.mergeSort fun x y => decide (x <= y)).toArray) os).heap.size := by
  show _ <= ((putRow encStr (Sort.ahead w n) b 0 _).heap ++ os).size
  rw [Array.size_append, size_putRow]
  exact Nat.le_add_right _ _
 have hos : (grow (putRow encStr (Sort.ahead w n) b 0 (xs.mergeSort fun x y => decide (x <= y)).toArray) os).os = w.os := rfl
 have htp : (grow (putRow encStr (Sort.ahead w n) b 0 (xs.mergeSort fun x y => decide (x <= y)).toArray) os).tape = w.tape := rfl
 have hout : (grow (putRow encStr (Sort.ahead w n) b 0 (xs.mergeSort fun x y => decide (x <= y)).toArray) os).output = w.output := rfl
 rw [<- hys] at hheap hheapb hsize hos htp hout
 have hw' : grow (putRow encStr (Sort.ahead w n) b 0 (List.mergeSort xs fun x y => decide (x <= y)).toArray) os = grow (putRow encStr (Sort.ahead w n) b 0 ys.toArray) os := by rw [hys]
 rw [hw']
 generalize grow (putRow encStr (Sort.ahead w n) b 0 ys.toArray) os = w' at hheap hheapb hsize hos htp hout
 have hget : ∀ (i : Nat) (s : Str), ys[i]? = some s -> (putCells encStr 0 ys.toArray arr)[i]? = some (.string ⟨s.toArray⟩) := by
  intro i s hs
  have hi : i < ys.length := (zC.1 hs).1
  have hia : i < arr.size := by
   have hi' : i < ys.length := hi
   omega
  unfold putCells
  rw [Array.getElem?_mapIdx, Array.getElem?_eq_getElem hia, Option.map_some, if_pos ⟨Nat.zero_le _, by simpa using hi⟩, Nat.sub_zero]
  rw [getElem!_pos _ i (by simpa using hi)]
  have : ys[i] = s := (zC.1 hs).2
  simp only [List.getElem_toArray, this]
  try rfl
 refine ⟨rfl, ⟨hos, htp, hout, hsize, fun c hc1 hc2 => hheap c hc1 fun e => hc2 ⟨e ▸ hfb, fun o ho => hbs o (e ▸ ho)⟩⟩, .inr ⟨b, cap, putCells encStr 0 ys.toArray arr, E', fun i _ => .string ⟨(ys[i]!).toArray⟩, fun _ _ _ => False, ?_, hheapb, ?_, hmax, ?_, hfb, ?_, ?_, fun _ _ _ h => h.elim, fun _ _ _ _ _ h => h.elim, fun o ho => absurd ho (hbs o)⟩⟩
 ·rw [hyl]
 ·rw [hyl]; exact hcap
 ·show (putCells encStr 0 _ arr).size = _
  unfold putCells
  rw [Array.size_mapIdx]; exact hsz
 ·intro i s j d hs hd
  cases j with
  | succ j => simp [Ty.cells, Base.cells] at hd
  | zero =>
   have e : i * (Ty.base .str).size + 0 = i := by show i * 1 + 0 = i; omega
   rw [e, hget i s hs]
   have hi := (zC.1 hs)
   show _ = some (Value.string ⟨(ys[i]!).toArray⟩)
   rw [getElem!_pos ys i hi.1, hi.2]
 ·intro i s j d hs hd
  cases j with
  | succ j => simp [Ty.cells, Base.cells] at hd
  | zero =>
   simp only [Ty.cells, Base.cells, List.getElem?_cons_zero, zD] at hd
   subst hd
   have hi := (zC.1 hs)
   show Ow _ _ _ _ (Value.string ⟨(ys[i]!).toArray⟩) _
   rw [getElem!_pos ys i hi.1, hi.2]
   exact Ow.str ⟨List.toArray s⟩ _
theorem AZ {P : Program} {ρ : Ren} (L : Lays.n192 P ρ) : En P { fid := ρ.f 192, t := .base .str, fn := gm } :=
 fun w S deep u xs ys fp h _ hO hfp hS => Df L w S deep u xs ys fp h hO hfp hS
end Go.Abs
