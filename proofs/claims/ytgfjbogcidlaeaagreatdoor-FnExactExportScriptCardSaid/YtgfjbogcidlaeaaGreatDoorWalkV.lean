import Derived.Test.YtgfjbogcidlaeaaGreatDoorDen2
import Derived.Test.YtgfjbogcidlaeaaGreatDoorKept
import Derived.Test.YtgfjbogcidlaeaaGreatDoorNames1
import Derived.Test.YtgfjbogcidlaeaaGreatDoorLib1
import Derived.StillTailTactics
import Derived.Deep.LoopGhost
/- The walk over the names of an expression: visit, and the two closures that it is handed. -/
set_option linter.unusedSimpArgs false
set_option linter.unusedVariables false
namespace Go.Proofs.YtgfjbogcidlaeaaGreatDoor
open Go.Abs Go.Proofs Go.RowKit
structure dD (hid : World -> Nat -> Prop) (w w' : World) : Prop where
 os : w'.os = w.os
 tape : w'.tape = w.tape
 output : w'.output = w.output
 size : w.heap.size <= w'.heap.size
 block : ∀ c, c < w.heap.size -> ¬ hid w c -> w'.heap[c]? = w.heap[c]?
 hids : ∀ c, hid w' c -> hid w c \/ w.heap.size <= c
theorem dD.trans {hid : World -> Nat -> Prop} {a b c : World} (h : dD hid a b) (k : dD hid b c) : dD hid a c :=
 ⟨k.os.trans h.os, k.tape.trans h.tape, k.output.trans h.output, Nat.le_trans h.size k.size, fun i hi hn => by
  rw [k.block i (Nat.lt_of_lt_of_le hi h.size) fun hb => (h.hids i hb).elim hn fun hge => by omega, h.block i hi hn], fun i hi => (k.hids i hi).elim (h.hids i) fun hge => .inr (Nat.le_trans h.size hge)⟩
abbrev Ev := Str × List Str
structure Clo (g : Nat) (caps : Array Value) (Good : List Ev -> World -> Prop) (hid : World -> Nat -> Prop) : Prop where
 enters : ∀ args w, (callFunc g args).run Tryz.prog w = .ok (.enter g args) w
 call : ∀ (w : World) (σ : List Ev) (S : Nat -> Nat -> Prop) (name : Str) (bound : List Str) (vb : Value), amb w -> Good σ w -> σ.length < 34359738368 -> bound.length <= 34359738368 -> Rep w S (.list (.base .str) bound) vb -> (∀ b o, S b o -> b < w.heap.size /\ ¬ hid w b) ->
  Calls Tryz.prog g (#[.string ⟨name.toArray⟩, vb] ++ caps) w fun e w' => e = .returned (.tuple #[]) /\ Good (σ ++ [(name, bound)]) w' /\ dD hid w w'
 keep : ∀ (w w' : World) (σ : List Ev), Good σ w -> (∀ c, hid w c -> w'.heap[c]? = w.heap[c]?) -> w.heap.size <= w'.heap.size -> Good σ w' /\ ∀ c, hid w' c -> hid w c
 lt : ∀ (w : World) (σ : List Ev) (c : Nat), Good σ w -> hid w c -> oD <= c /\ c < w.heap.size
def iO (e : af) (va : Value) : Array Value := #[.int .i64 e.kind, .int .i64 e.n, .string ⟨e.text.toArray⟩, va]
theorem Clo.below {g : Nat} {caps : Array Value} {Good : List Ev -> World -> Prop} {hid : World -> Nat -> Prop} (C : Clo g caps Good hid) {w w' : World} {σ : List Ev} (h : Good σ w) (hB : Below w.heap.size w w') : Good σ w' /\ dD hid w w' := by
 have := C.keep w w' σ h (fun c hc => hB.block c (C.lt w σ c h hc).2) hB.size
 exact ⟨this.1, hB.os, hB.tape, hB.output, hB.size, fun c hc _ => hB.block c hc, fun c hc => .inl (this.2 c hc)⟩
theorem Clo.go {g : Nat} {caps : Array Value} {Good : List Ev -> World -> Prop} {hid : World -> Nat -> Prop} (C : Clo g caps Good hid) {w : World} {σ : List Ev} {S : Nat -> Nat -> Prop} {name : Str} {bound : List Str} {vb : Value} (ha : amb w) (hG : Good σ w) (hl : σ.length < 34359738368) (hbl : bound.length <= 34359738368)
  (hrb : Rep w S (.list (.base .str) bound) vb) (hS : ∀ b o, S b o -> b < w.heap.size /\ ¬ hid w b) (w2 : World) (hB : Below w.heap.size w w2) :
  Calls Tryz.prog g (#[.string ⟨name.toArray⟩, vb] ++ caps) w2 fun e w' => e = .returned (.tuple #[]) /\ Good (σ ++ [(name, bound)]) w' /\ dD hid w w' := by
 obtain ⟨h1, h2⟩ := C.below hG hB
 refine (C.call w2 σ S name bound vb (amb.keep ha hB.size fun k hk => hB.block k (Nat.lt_of_lt_of_le hk ha.size)) h1 hl hbl (hrb.move fun b o hs => ⟨hs, hB.cell (hS b o hs).1⟩) (fun b o hs => ⟨Nat.lt_of_lt_of_le (hS b o hs).1 hB.size, fun hh => ?_⟩)).mono ?_
 ·rcases h2.hids b hh with q | q
  ·exact (hS b o hs).2 q
  ·have := (hS b o hs).1; omega
 ·rintro e w' ⟨rfl, g1, g2⟩
  exact ⟨rfl, g1, h2.trans g2⟩
def Visits (g : Nat) (caps : Array Value) (Good : List Ev -> World -> Prop) (hid : World -> Nat -> Prop) (rec : af -> List Str -> Option (List Ev)) : Prop :=
 ∀ (e : af) (bound : List Str) (es σ : List Ev) (w : World) (S : Nat -> Nat -> Prop) (va vb : Value) (wb : Nat) (T : TypeId), rec e bound = some es -> amb w -> Good σ w -> σ.length + es.length <= 34359738368 ->
  w.heap[wb]? = some (.cells #[.func (.func g) #[] caps, .nilFunc] T (0, 0)) -> ¬ hid w wb -> Rep w S (.list (.base .expr) e.args) va -> Rep w S (.list (.base .str) bound) vb -> (∀ b o, S b o -> b < w.heap.size /\ ¬ hid w b) ->
  Calls Tryz.prog 198 #[.pointer (some ⟨wb, 0, none⟩), .agg (iO e va), vb] w fun r w' => r = .returned (.tuple #[]) /\ Good (σ ++ es) w' /\ dD hid w w'
theorem Jm (bound : List Str) (s : Str) (S : Nat -> Nat -> Prop) (vb : Value) (hbl : bound.length <= 34359738368) (w : World) (ha : amb w) (hrb : Rep w S (.list (.base .str) bound) vb) (hS : ∀ b o, S b o -> b < w.heap.size) (w1 : World) (h1 : Below w.heap.size w w1) :
  Calls Tryz.prog 112 #[vb, .string ⟨s.toArray⟩] w1 fun e w' => e = .returned (.int .i64 (posOf s 0 bound)) /\ Below w1.heap.size w1 w' := by
 have hs := xk w1 S [vb, .string ⟨s.toArray⟩] (bound, s) (posOf s 0 bound) (xq bound s hbl) (amb.keep ha h1.size fun k hk => h1.block k (Nat.lt_of_lt_of_le hk ha.size))
  ⟨⟨hrb.move fun b o hs => ⟨hs, h1.cell (hS b o hs)⟩, trivial⟩, ⟨Rep.str ⟨s.toArray⟩, trivial⟩⟩ (fun b o hs => Nat.lt_of_lt_of_le (hS b o hs) h1.size)
 refine hs.mono ?_
 rintro e w' ⟨v, rfl, hB, us, rfl, fps, hr, _⟩
 refine ⟨?_, hB⟩
 rcases us with _ | ⟨u, _ | ⟨u2, r⟩⟩
 ·exact hr.elim
 ·have := hr.1
  generalize hd : D.int .i64 (posOf s 0 bound) = d at this
  have h2 : Ow w' (fun _ _ => False) true d u (fps 0) := hd ▸ hr.1
  cases h2 with
  | int k n => cases hd; rfl
  | bool => cases hd
  | str => cases hd
  | nil => cases hd
  | ro d v fp hd' => cases hd'
  | list => cases hd
 ·exact hr.elim
set_option maxHeartbeats 4000000 in
set_option maxRecDepth 100000 in
theorem TL {g : Nat} {caps : Array Value} {Good : List Ev -> World -> Prop} {hid : World -> Nat -> Prop} (C : Clo g caps Good hid) (e : af) (bound : List Str) (σ : List Ev) (w : World) (S : Nat -> Nat -> Prop) (va vb : Value) (wb : Nat) (T : TypeId)
  (hk : e.kind = 3) (hnb : bound.contains e.text = false) (ha : amb w) (hG : Good σ w) (hl : σ.length + 1 <= 34359738368) (hbl : bound.length <= 34359738368) (hwb : w.heap[wb]? = some (.cells #[.func (.func g) #[] caps, .nilFunc] T (0, 0))) (hnh : ¬ hid w wb)
  (hrb : Rep w S (.list (.base .str) bound) vb) (hS : ∀ b o, S b o -> b < w.heap.size /\ ¬ hid w b) :
  Calls Tryz.prog 198 #[.pointer (some ⟨wb, 0, none⟩), .agg (iO e va), vb] w fun r w' => r = .returned (.tuple #[]) /\ Good (σ ++ [(e.text, bound)]) w' /\ dD hid w w' := by
 unfold iO
 have c0 : w.cell? ⟨wb, 0, none⟩ = some (.func (.func g) #[] caps) := by simp [World.cell?, hwb]
 have hwl : wb < w.heap.size := (Array.getElem?_eq_some_iff.1 hwb).1
 have hn : posOf e.text 0 bound < 0 := (Dx _ _ _).2 hnb
 have hcall := Jm bound e.text S vb hbl w ha hrb (fun b o hs => (hS b o hs).1)
 have hfn : ∀ W : World, (binOp BinOp.neq 176 (.func (.func g) #[] caps) .nilFunc).run Tryz.prog W = .ok (.bool true) W := fun W => by kernel_rfl
 have HX : Hid (amb w /\ Good σ w /\ Rep w S (.list (.base .str) bound) vb /\ w.heap[wb]? = some (.cells #[.func (.func g) #[] caps, .nilFunc] T (0, 0))) := ⟨ha, hG, hrb, hwb⟩
 have en := C.enters
 have hgo := C.go (name := e.text) ha hG (by omega) hbl hrb hS
 clear ha hG hrb hwb hnb
 go_enter Tryz.func198, Tryz.ntmps198
 go_wp2_with (go_at_call 112; refine (hcall _ ((Below.refl _ _).alloc (Nat.le_refl _) _)).mono ?_; rintro e2 w2 ⟨rfl, hB⟩; have HB : Hid (Below _ _ w2) := hB; have c2 := (hB.cell (p := ⟨wb, 0, none⟩) (by simp; omega)).trans (World.cell?_of_block (Below.heap_alloc w _ wb hwl) |>.trans c0); have d2 := hB.cell (p := ⟨w.heap.size, 2, none⟩) (by simp); clear hB c0)
 go_still_tail 7, (by kernel_rfl)
 change wpList _ _ _ _ _ w2.drew
 go_wp2_with (go_at_fn g; refine (hgo _ (((Below.refl _ _).alloc (Nat.le_refl _) _).trans (HB.out.mono (by simp))).drew).mono ?_; rintro e3 w3 ⟨rfl, h3⟩; have H3 : Hid (Good (σ ++ [(e.text, bound)]) w3 /\ dD hid w w3) := h3; clear h3)
 refine bodyPost_ret (results_none rfl _ _ _) rfl ?_
 exact ⟨rfl, H3.out⟩
theorem Visits.go {g : Nat} {caps : Array Value} {Good : List Ev -> World -> Prop} {hid : World -> Nat -> Prop} (C : Clo g caps Good hid) {rec : af -> List Str -> Option (List Ev)} (IH : Visits g caps Good hid rec) {e : af} {bound : List Str} {es σ : List Ev} {w : World} {S : Nat -> Nat -> Prop} {va vb : Value} {wb : Nat} {T : TypeId}
  (h : rec e bound = some es) (ha : amb w) (hG : Good σ w) (hl : σ.length + es.length <= 34359738368) (hwb : w.heap[wb]? = some (.cells #[.func (.func g) #[] caps, .nilFunc] T (0, 0))) (hnh : ¬ hid w wb) (hra : Rep w S (.list (.base .expr) e.args) va)
  (hrb : Rep w S (.list (.base .str) bound) vb) (hS : ∀ b o, S b o -> b < w.heap.size /\ ¬ hid w b) (w2 : World) (hB : Below w.heap.size w w2) :
  Calls Tryz.prog 198 #[.pointer (some ⟨wb, 0, none⟩), .agg #[.int .i64 e.kind, .int .i64 e.n, .string ⟨e.text.toArray⟩, va], vb] w2 fun r w' => r = .returned (.tuple #[]) /\ Good (σ ++ es) w' /\ dD hid w w' := by
 obtain ⟨h1, h2⟩ := C.below hG hB
 have hwl : wb < w.heap.size := (Array.getElem?_eq_some_iff.1 hwb).1
 have hn : ∀ c, c < w.heap.size -> ¬ hid w c -> ¬ hid w2 c := fun c hc hn hh => (h2.hids c hh).elim hn fun hge => by omega
 refine (IH e bound es σ w2 S va vb wb T h (amb.keep ha hB.size fun k hk => hB.block k (Nat.lt_of_lt_of_le hk ha.size)) h1 hl (by rw [hB.block wb hwl]; exact hwb) (hn wb hwl hnh)
  (hra.move fun b o hs => ⟨hs, hB.cell (hS b o hs).1⟩) (hrb.move fun b o hs => ⟨hs, hB.cell (hS b o hs).1⟩) (fun b o hs => ⟨Nat.lt_of_lt_of_le (hS b o hs).1 hB.size, hn b (hS b o hs).1 (hS b o hs).2⟩)).mono ?_
 rintro r w' ⟨rfl, g1, g2⟩
 exact ⟨rfl, g1, h2.trans g2⟩
theorem Visits.go2 {g : Nat} {caps : Array Value} {Good : List Ev -> World -> Prop} {hid : World -> Nat -> Prop} (C : Clo g caps Good hid) {rec : af -> List Str -> Option (List Ev)} (IH : Visits g caps Good hid rec) {e : af} {bound : List Str} {es σ : List Ev} {w : World} {S : Nat -> Nat -> Prop} {va : Value} {wb : Nat} {T : TypeId}
  (h : rec e bound = some es) (ha : amb w) (hG : Good σ w) (hl : σ.length + es.length <= 34359738368) (hwb : w.heap[wb]? = some (.cells #[.func (.func g) #[] caps, .nilFunc] T (0, 0))) (hnh : ¬ hid w wb) (hra : Rep w S (.list (.base .expr) e.args) va)
  (hS : ∀ b o, S b o -> b < w.heap.size /\ ¬ hid w b) (w2 : World) (hB : Below w.heap.size w w2) (S2 : Nat -> Nat -> Prop) (vb : Value) (hrb : Rep w2 S2 (.list (.base .str) bound) vb) (hS2 : ∀ b o, S2 b o -> (b < w.heap.size -> ¬ hid w b) /\ b < w2.heap.size) :
  Calls Tryz.prog 198 #[.pointer (some ⟨wb, 0, none⟩), .agg #[.int .i64 e.kind, .int .i64 e.n, .string ⟨e.text.toArray⟩, va], vb] w2 fun r w' => r = .returned (.tuple #[]) /\ Good (σ ++ es) w' /\ dD hid w w' := by
 obtain ⟨h1, h2⟩ := C.below hG hB
 have hwl : wb < w.heap.size := (Array.getElem?_eq_some_iff.1 hwb).1
 have hlt : ∀ c, hid w2 c -> c < w.heap.size /\ hid w c := fun c hc => by
  have := (C.keep w w2 σ hG (fun c hc => hB.block c (C.lt w σ c hG hc).2) hB.size).2 c hc
  exact ⟨(C.lt w σ c hG this).2, this⟩
 have hn : ∀ c, (c < w.heap.size -> ¬ hid w c) -> ¬ hid w2 c := fun c hn hh => hn (hlt c hh).1 (hlt c hh).2
 refine (IH e bound es σ w2 (fun b o => S b o \/ S2 b o) va vb wb T h (amb.keep ha hB.size fun k hk => hB.block k (Nat.lt_of_lt_of_le hk ha.size)) h1 hl (by rw [hB.block wb hwl]; exact hwb) (hn wb fun _ => hnh)
  (hra.move fun b o hs => ⟨.inl hs, hB.cell (hS b o hs).1⟩) (hrb.move fun b o hs => ⟨.inr hs, rfl⟩) (fun b o hs => hs.elim (fun hs => ⟨Nat.lt_of_lt_of_le (hS b o hs).1 hB.size, hn b fun _ => (hS b o hs).2⟩) fun hs => ⟨(hS2 b o hs).2, hn b (hS2 b o hs).1⟩)).mono ?_
 rintro r w' ⟨rfl, g1, g2⟩
 exact ⟨rfl, g1, h2.trans g2⟩
theorem dD.cell {hid : World -> Nat -> Prop} {w w' : World} (h : dD hid w w') {b o : Nat} (hb : b < w.heap.size) (hn : ¬ hid w b) : w'.cell? ⟨b, o, none⟩ = w.cell? ⟨b, o, none⟩ := World.cell?_of_block (w := w) (h.block b hb hn)
theorem dD.not {hid : World -> Nat -> Prop} {w w' : World} (h : dD hid w w') {b : Nat} (hb : b < w.heap.size) (hn : ¬ hid w b) : b < w'.heap.size /\ ¬ hid w' b := ⟨Nat.lt_of_lt_of_le hb h.size, fun hh => (h.hids b hh).elim hn fun hge => by omega⟩
theorem dD.amb {g : Nat} {caps : Array Value} {Good : List Ev -> World -> Prop} {hid : World -> Nat -> Prop} (C : Clo g caps Good hid) {w w' : World} {σ : List Ev} (hG : Good σ w) (h : dD hid w w') (ha : amb w) : amb w' :=
 Go.Abs.amb.keep ha h.size fun k hk => h.block k (Nat.lt_of_lt_of_le hk ha.size) fun hh => by have := (C.lt w σ k hG hh).1; omega
theorem oJ {w : World} {S : Nat -> Nat -> Prop} {t : Ty} {xs : List t.den} {v : Value} (h : Rep w S (.list t xs) v) : ∃ p n c, v = .slice p n c := by
 generalize hd : D.list t xs = d at h
 cases h with
 | int => cases hd
 | bool => cases hd
 | str => cases hd
 | nil => exact ⟨_, _, _, rfl⟩
 | emp => exact ⟨_, _, _, rfl⟩
 | list => exact ⟨_, _, _, rfl⟩
structure qE (rec : af -> List Str -> Option (List Ev)) (Good : List Ev -> World -> Prop) (hid : World -> Nat -> Prop) (binds : Bool) (x : Str) (bound : List Str) (args : List af) (σ es : List Ev) (w1 : World) (j k : Nat) (wr : World) : Prop where
 le : j + k = args.length
 keep : dD hid w1 wr
 evs : ∃ es1 rest, es = es1 ++ rest /\ cZ rec binds x bound j (args.drop j) = some rest /\ Good (σ ++ es1) wr
set_option maxHeartbeats 8000000 in
set_option maxRecDepth 100000 in
theorem Qh {g : Nat} {caps : Array Value} {Good : List Ev -> World -> Prop} {hid : World -> Nat -> Prop} (C : Clo g caps Good hid) {rec : af -> List Str -> Option (List Ev)} (IH : Visits g caps Good hid rec)
  (e : af) (bound : List Str) (es σ : List Ev) (w : World) (S : Nat -> Nat -> Prop) (ap : Option Addr) (ab ao cap : Nat) (hap : e.args ≠ [] -> ap = some ⟨ab, ao, none⟩) (vb : Value) (wb : Nat) (T : TypeId)
  (hk3 : ¬ e.kind = 3) (hk7 : ¬ e.kind = 7) (hk9 : ¬ e.kind = 9) (hes : cZ rec false e.text bound 0 e.args = some es) (ha : amb w) (hG : Good σ w) (hl : σ.length + es.length <= 34359738368) (hal : e.args.length <= 34359738368)
  (hwb : w.heap[wb]? = some (.cells #[.func (.func g) #[] caps, .nilFunc] T (0, 0))) (hnh : ¬ hid w wb)
  (hcap : e.args.length <= cap) (hvs : ∀ (i : Nat) (x : af), e.args[i]? = some x -> ∃ va, w.cell? ⟨ab, ao + i * 4, none⟩ = some (.int .i64 x.kind) /\ w.cell? ⟨ab, ao + i * 4 + 1, none⟩ = some (.int .i64 x.n) /\ w.cell? ⟨ab, ao + i * 4 + 2, none⟩ = some (.string ⟨x.text.toArray⟩) /\ w.cell? ⟨ab, ao + i * 4 + 3, none⟩ = some va /\ Rep w S (.list (.base .expr) x.args) va /\ ab < w.heap.size /\ ¬ hid w ab)
  (hrb : Rep w S (.list (.base .str) bound) vb) (hS : ∀ b o, S b o -> b < w.heap.size /\ ¬ hid w b) :
  Calls Tryz.prog 198 #[.pointer (some ⟨wb, 0, none⟩), .agg (iO e (.slice ap e.args.length cap)), vb] w fun r w' => r = .returned (.tuple #[]) /\ Good (σ ++ es) w' /\ dD hid w w' := by
 unfold iO
 have c0 : w.cell? ⟨wb, 1, none⟩ = some .nilFunc := by simp [World.cell?, hwb]
 have hwl : wb < w.heap.size := (Array.getElem?_eq_some_iff.1 hwb).1
 have HX : Hid (amb w /\ Good σ w /\ Rep w S (.list (.base .str) bound) vb /\ w.heap[wb]? = some (.cells #[.func (.func g) #[] caps, .nilFunc] T (0, 0))) := ⟨ha, hG, hrb, hwb⟩
 have HV : Hid (∀ (i : Nat) (x : af), e.args[i]? = some x -> ∃ va, w.cell? ⟨ab, ao + i * 4, none⟩ = some (.int .i64 x.kind) /\ w.cell? ⟨ab, ao + i * 4 + 1, none⟩ = some (.int .i64 x.n) /\ w.cell? ⟨ab, ao + i * 4 + 2, none⟩ = some (.string ⟨x.text.toArray⟩) /\ w.cell? ⟨ab, ao + i * 4 + 3, none⟩ = some va /\ Rep w S (.list (.base .expr) x.args) va /\ ab < w.heap.size /\ ¬ hid w ab) := hvs
 have HE : Hid (cZ rec false e.text bound 0 e.args = some es) := hes
 clear ha hG hrb hwb hvs hes
 go_enter Tryz.func198, Tryz.ntmps198
 go_wp2
 generalize hw1 : w.alloc (.cells #[.int .i64 e.kind, .int .i64 e.n, .string ⟨e.text.toArray⟩, .slice ap e.args.length cap] 43) = w1
 have hB1 : Below w.heap.size w w1 := hw1 ▸ (Below.refl _ _).alloc (Nat.le_refl _) _
 have HK : Hid (dD hid w w1 /\ Good σ w1) := ⟨(C.below HX.out.2.1 hB1).2, (C.below HX.out.2.1 hB1).1⟩
 have hw1s : w.heap.size <= w1.heap.size := hB1.size
 clear hB1 hw1
 go_loopg [59] e.args.length (fun k i wr => ∃ j : Nat, i = .int .i64 j /\ qE rec Good hid false e.text bound e.args σ es w1 j k wr)
 case atStart =>
  exact ⟨0, rfl, by omega, ⟨rfl, rfl, rfl, Nat.le_refl _, fun _ _ _ => rfl, fun c hc => .inl hc⟩, [], es, rfl, HE.out, by rw [List.append_nil]; exact HK.out.2⟩
 case round =>
  obtain ⟨j, rfl, hR⟩ := hrel
  by_cases hj : j < e.args.length
  ·have hap' := hap (fun h => by rw [h] at hj; simp at hj)
   subst hap'
   obtain ⟨hle, hkeep, es1, rest, hes, hwa, hGr⟩ := hR
   have hkw : dD hid w wr := HK.out.1.trans hkeep
   obtain ⟨va, f0, f1, f2, f3, hra, hab, hnab⟩ := HV.out j e.args[j] (zF hj)
   rw [<- hkw.cell hab hnab] at f0 f1 f2 f3
   obtain ⟨vp, vn, vc, rfl⟩ := oJ hra
   rw [List.drop_eq_getElem_cons hj] at hwa
   simp only [cZ, Bool.false_and, Bool.false_eq_true, if_false] at hwa
   obtain ⟨u, hu, hwa⟩ := zB.1 hwa
   obtain ⟨v, hv, hwa⟩ := zB.1 hwa
   have hrest : rest = u ++ v := (Option.some.inj hwa).symm
   have hlu : (σ ++ es1).length + u.length <= 34359738368 := by rw [hes, hrest] at hl; simp only [List.length_append] at hl ⊢; omega
   have hmv : ∀ b o, S b o -> S b o /\ wr.cell? ⟨b, o, none⟩ = w.cell? ⟨b, o, none⟩ := fun b o hs => ⟨hs, hkw.cell (hS b o hs).1 (hS b o hs).2⟩
   have hgo := Visits.go C IH hu (hkw.amb C HX.out.2.1 HX.out.1) hGr hlu (by rw [hkw.block wb hwl hnh]; exact HX.out.2.2.2) (hkw.not hwl hnh).2 (hra.move hmv) (HX.out.2.2.1.move hmv) (fun b o hs => hkw.not (hS b o hs).1 (hS b o hs).2)
   have HR : Hid (j + gk = e.args.length /\ dD hid w1 wr /\ es = es1 ++ (u ++ v) /\ cZ rec false e.text bound (j + 1) (e.args.drop (j + 1)) = some v) := ⟨hle, hkeep, hrest ▸ hes, hv⟩
   clear hle hkeep hes hwa hGr hkw hu hv hra hrest hmv hlu
   go_wp2_with (go_at_call 198; refine (hgo _ ((Below.refl _ _).alloc (Nat.le_refl _) _)).mono ?_; rintro r w4 ⟨rfl, h4⟩; have H4 : Hid (Good (σ ++ es1 ++ u) w4 /\ dD hid wr w4) := h4; clear h4)
   go_roundg (gk - 1)
   case measure => have := HR.out.1; omega
   case rel =>
    obtain ⟨q1, q2, q3, q4⟩ := HR.out
    refine ⟨j + 1, rfl, by omega, q2.trans H4.out.2, es1 ++ u, v, by rw [q3, List.append_assoc], q4, ?_⟩
    rw [<- List.append_assoc]
    exact H4.out.1
  ·have HR : Hid (qE rec Good hid false e.text bound e.args σ es w1 j gk wr) := hR
   clear hR
   go_wp2
   refine bodyPost_end (results_none rfl _ _ _) rfl ?_
   obtain ⟨q1, q2, es1, rest, q3, q4, q5⟩ := HR.out
   have hr : rest = [] := by
    rw [List.drop_eq_nil_of_le (by omega)] at q4
    exact (Option.some.inj q4).symm
   subst hr
   rw [List.append_nil] at q3
   subst q3
   exact ⟨rfl, q5, HK.out.1.trans q2⟩
def Vo (e : af) (bound : List Str) : St := (({ tmps := List.replicate 82 .undef, boxes := List.replicate 82 none, owns := List.replicate 82 [] } : St).fU 2 (.v (.one (.d (.list (.base .str) bound))))).fU 4 (.elt (.base .expr) e 0)
theorem Tv {w : World} {S : Nat -> Nat -> Prop} {e : af} {bound : List Str} {va vb : Value} {tb : Nat} (hrb : Rep w S (.list (.base .str) bound) vb) (hra : Rep w S (.list (.base .expr) e.args) va) (hS : ∀ b o, S b o -> b < w.heap.size) (htb : tb < w.heap.size)
  (e0 : w.cell? ⟨tb, 0, none⟩ = some (.int .i64 e.kind)) (e1 : w.cell? ⟨tb, 1, none⟩ = some (.int .i64 e.n)) (e2 : w.cell? ⟨tb, 2, none⟩ = some (.string ⟨e.text.toArray⟩)) (e3 : w.cell? ⟨tb, 3, none⟩ = some va)
  (a : Act) (hd : a.defers = []) (hs : a.tmps.size = 82) (h2 : a.tmps.getD 2 undef = vb) (h4 : a.tmps.getD 4 undef = .pointer (some ⟨tb, 0, none⟩)) :
  ∃ G, Inv ⟨w, fun b o => S b o \/ b = tb, fun _ => False, none⟩ G (Vo e bound) a w := by
 obtain ⟨G, hG, hI⟩ := Yj (w := w) (S0 := fun b o => S b o \/ b = tb) (fun b o h => h.elim (hS b o) fun h => h ▸ htb) hd
 rw [hs] at hI
 have hmv : ∀ b o, S b o -> G.S b o /\ w.cell? ⟨b, o, none⟩ = w.cell? ⟨b, o, none⟩ := fun b o h => ⟨by rw [hG]; exact .inl h, rfl⟩
 refine ⟨G, (hI.GU 2 (av := .v (.one (.d (.list (.base .str) bound)))) ?_).GU 4 ?_⟩
 ·rw [h2]; exact hrb.move hmv
 ·rw [h4]
  refine ⟨tb, 0, rfl, fun j => match j with | 0 => .int .i64 e.kind | 1 => .int .i64 e.n | 2 => .string ⟨e.text.toArray⟩ | _ => va, fun j d hj => ?_⟩
  have hSt : ∀ o, G.S tb o := fun o => by rw [hG]; exact .inr rfl
  rw [Nat.zero_add]
  match j, hj with
  | 0, hj => cases hj; exact ⟨e0, hSt _, .int _ _⟩
  | 1, hj => cases hj; exact ⟨e1, hSt _, .int _ _⟩
  | 2, hj => cases hj; exact ⟨e2, hSt _, .str ⟨e.text.toArray⟩⟩
  | 3, hj => cases hj; exact ⟨e3, hSt _, hra.move hmv⟩
set_option maxHeartbeats 8000000 in
set_option maxRecDepth 100000 in
theorem WH {g : Nat} {caps : Array Value} {Good : List Ev -> World -> Prop} {hid : World -> Nat -> Prop} (C : Clo g caps Good hid) {rec : af -> List Str -> Option (List Ev)} (IH : Visits g caps Good hid rec)
  (e : af) (bound : List Str) (es σ : List Ev) (w : World) (S : Nat -> Nat -> Prop) (ap : Option Addr) (ab ao cap : Nat) (hap : e.args ≠ [] -> ap = some ⟨ab, ao, none⟩) (vb : Value) (wb : Nat) (T : TypeId)
  (hk : e.kind = 7) (hbl : bound.length <= 34359738368) (hra0 : Rep w S (.list (.base .expr) e.args) (.slice ap e.args.length cap)) (hes : cZ rec true e.text bound 0 e.args = some es) (ha : amb w) (hG : Good σ w) (hl : σ.length + es.length <= 34359738368) (hal : e.args.length <= 34359738368)
  (hwb : w.heap[wb]? = some (.cells #[.func (.func g) #[] caps, .nilFunc] T (0, 0))) (hnh : ¬ hid w wb)
  (hcap : e.args.length <= cap) (hvs : ∀ (i : Nat) (x : af), e.args[i]? = some x -> ∃ va, w.cell? ⟨ab, ao + i * 4, none⟩ = some (.int .i64 x.kind) /\ w.cell? ⟨ab, ao + i * 4 + 1, none⟩ = some (.int .i64 x.n) /\ w.cell? ⟨ab, ao + i * 4 + 2, none⟩ = some (.string ⟨x.text.toArray⟩) /\ w.cell? ⟨ab, ao + i * 4 + 3, none⟩ = some va /\ Rep w S (.list (.base .expr) x.args) va /\ ab < w.heap.size /\ ¬ hid w ab)
  (hrb : Rep w S (.list (.base .str) bound) vb) (hS : ∀ b o, S b o -> b < w.heap.size /\ ¬ hid w b) :
  Calls Tryz.prog 198 #[.pointer (some ⟨wb, 0, none⟩), .agg (iO e (.slice ap e.args.length cap)), vb] w fun r w' => r = .returned (.tuple #[]) /\ Good (σ ++ es) w' /\ dD hid w w' := by
 unfold iO
 rw [hk]
 have c0 : w.cell? ⟨wb, 1, none⟩ = some .nilFunc := by simp [World.cell?, hwb]
 have hwl : wb < w.heap.size := (Array.getElem?_eq_some_iff.1 hwb).1
 have hfn : ∀ W : World, (binOp BinOp.neq 141 .nilFunc .nilFunc).run Tryz.prog W = .ok (.bool false) W := fun W => by kernel_rfl
 have HA : Hid (Rep w S (.list (.base .expr) e.args) (.slice ap e.args.length cap)) := hra0
 have HX : Hid (amb w /\ Good σ w /\ Rep w S (.list (.base .str) bound) vb /\ w.heap[wb]? = some (.cells #[.func (.func g) #[] caps, .nilFunc] T (0, 0))) := ⟨ha, hG, hrb, hwb⟩
 have HV : Hid (∀ (i : Nat) (x : af), e.args[i]? = some x -> ∃ va, w.cell? ⟨ab, ao + i * 4, none⟩ = some (.int .i64 x.kind) /\ w.cell? ⟨ab, ao + i * 4 + 1, none⟩ = some (.int .i64 x.n) /\ w.cell? ⟨ab, ao + i * 4 + 2, none⟩ = some (.string ⟨x.text.toArray⟩) /\ w.cell? ⟨ab, ao + i * 4 + 3, none⟩ = some va /\ Rep w S (.list (.base .expr) x.args) va /\ ab < w.heap.size /\ ¬ hid w ab) := hvs
 have HE : Hid (cZ rec true e.text bound 0 e.args = some es) := hes
 clear ha hG hrb hwb hvs hes hra0
 go_enter Tryz.func198, Tryz.ntmps198
 go_wp2
 generalize hw1 : w.alloc (.cells #[.int .i64 7, .int .i64 e.n, .string ⟨e.text.toArray⟩, .slice ap e.args.length cap] 43) = w1
 have HD : Hid (w1.cell? ⟨w.heap.size, 0, none⟩ = some (.int .i64 e.kind) /\ w1.cell? ⟨w.heap.size, 1, none⟩ = some (.int .i64 e.n) /\ w1.cell? ⟨w.heap.size, 2, none⟩ = some (.string ⟨e.text.toArray⟩) /\ w1.cell? ⟨w.heap.size, 3, none⟩ = some (.slice ap e.args.length cap) /\ w.heap.size < w1.heap.size /\ ¬ hid w1 w.heap.size) := by
  have hrow : w1.heap[w.heap.size]? = some (.cells #[.int .i64 7, .int .i64 e.n, .string ⟨e.text.toArray⟩, .slice ap e.args.length cap] 43 (0, 0)) := by
   rw [<- hw1]
   show (w.heap.push _)[w.heap.size]? = _
   rw [Array.getElem?_push_size]
  have hB0 : Below w.heap.size w w1 := hw1 ▸ (Below.refl _ _).alloc (Nat.le_refl _) _
  refine ⟨by rw [hk]; simp [World.cell?, hrow], by simp [World.cell?, hrow], by simp [World.cell?, hrow], by simp [World.cell?, hrow], (Array.getElem?_eq_some_iff.1 hrow).1, fun hh => ?_⟩
  have := (C.keep w w1 σ HX.out.2.1 (fun c hc => hB0.block c (C.lt w σ c HX.out.2.1 hc).2) hB0.size).2 _ hh
  have := (C.lt w σ _ HX.out.2.1 this).2
  omega
 have hB1 : Below w.heap.size w w1 := hw1 ▸ (Below.refl _ _).alloc (Nat.le_refl _) _
 have HK : Hid (dD hid w w1 /\ Good σ w1) := ⟨(C.below HX.out.2.1 hB1).2, (C.below HX.out.2.1 hB1).1⟩
 have hw1s : w.heap.size <= w1.heap.size := hB1.size
 clear hB1 hw1
 go_loopg [59] e.args.length (fun k i wr => ∃ j : Nat, i = .int .i64 j /\ qE rec Good hid true e.text bound e.args σ es w1 j k wr)
 case atStart =>
  exact ⟨0, rfl, by omega, ⟨rfl, rfl, rfl, Nat.le_refl _, fun _ _ _ => rfl, fun c hc => .inl hc⟩, [], es, rfl, HE.out, by rw [List.append_nil]; exact HK.out.2⟩
 case round =>
  obtain ⟨j, rfl, hR⟩ := hrel
  by_cases hj : j < e.args.length
  ·have hap' := hap (fun h => by rw [h] at hj; simp at hj)
   subst hap'
   obtain ⟨hle, hkeep, es1, rest, hes, hwa, hGr⟩ := hR
   have hkw : dD hid w wr := HK.out.1.trans hkeep
   obtain ⟨va, f0, f1, f2, f3, hra, hab, hnab⟩ := HV.out j e.args[j] (zF hj)
   rw [<- hkw.cell hab hnab] at f0 f1 f2 f3
   obtain ⟨vp, vn, vc, rfl⟩ := oJ hra
   rw [List.drop_eq_getElem_cons hj] at hwa
   by_cases hj0 : j = 0
   ·subst hj0
    simp only [cZ, Bool.true_and, Nat.lt_irrefl, decide_false, Bool.false_eq_true, if_false] at hwa
    obtain ⟨u, hu, hwa⟩ := zB.1 hwa
    obtain ⟨v, hv, hwa⟩ := zB.1 hwa
    have hrest : rest = u ++ v := (Option.some.inj hwa).symm
    have hlu : (σ ++ es1).length + u.length <= 34359738368 := by rw [hes, hrest] at hl; simp only [List.length_append] at hl ⊢; omega
    have hmv : ∀ b o, S b o -> S b o /\ wr.cell? ⟨b, o, none⟩ = w.cell? ⟨b, o, none⟩ := fun b o hs => ⟨hs, hkw.cell (hS b o hs).1 (hS b o hs).2⟩
    have hgo := Visits.go C IH hu (hkw.amb C HX.out.2.1 HX.out.1) hGr hlu (by rw [hkw.block wb hwl hnh]; exact HX.out.2.2.2) (hkw.not hwl hnh).2 (hra.move hmv) (HX.out.2.2.1.move hmv) (fun b o hs => hkw.not (hS b o hs).1 (hS b o hs).2)
    have HR : Hid (0 + gk = e.args.length /\ dD hid w1 wr /\ es = es1 ++ (u ++ v) /\ cZ rec true e.text bound (0 + 1) (e.args.drop (0 + 1)) = some v) := ⟨hle, hkeep, hrest ▸ hes, hv⟩
    clear hle hkeep hes hwa hGr hkw hu hv hra hrest hmv hlu
    simp only [Nat.zero_mul, Nat.add_zero] at f0 f1 f2 f3
    go_wp2_with (go_at_call 198; refine (hgo _ ((Below.refl _ _).alloc (Nat.le_refl _) _)).mono ?_; rintro r w4 ⟨rfl, h4⟩; have H4 : Hid (Good (σ ++ es1 ++ u) w4 /\ dD hid wr w4) := h4; clear h4)
    go_roundg (gk - 1)
    case measure => have := HR.out.1; omega
    case rel =>
     obtain ⟨q1, q2, q3, q4⟩ := HR.out
     refine ⟨0 + 1, rfl, by omega, q2.trans H4.out.2, es1 ++ u, v, by rw [q3, List.append_assoc], q4, ?_⟩
     rw [<- List.append_assoc]
     exact H4.out.1
   ·have hj1 : (0 : Int) < (j : Int) := by omega
    have hd1 : decide (0 < j) = true := by simp; omega
    simp only [cZ, Bool.true_and, hd1, if_true] at hwa
    obtain ⟨u, hu, hwa⟩ := zB.1 hwa
    obtain ⟨_, hgd, hu⟩ := zB.1 hu
    obtain ⟨v, hv, hwa⟩ := zB.1 hwa
    have hrest : rest = u ++ v := (Option.some.inj hwa).symm
    have hlu : (σ ++ es1).length + u.length <= 34359738368 := by rw [hes, hrest] at hl; simp only [List.length_append] at hl ⊢; omega
    have hmv : ∀ b o, S b o -> S b o /\ wr.cell? ⟨b, o, none⟩ = w.cell? ⟨b, o, none⟩ := fun b o hs => ⟨hs, hkw.cell (hS b o hs).1 (hS b o hs).2⟩
    have hgo := Visits.go2 C IH hu (hkw.amb C HX.out.2.1 HX.out.1) hGr hlu (by rw [hkw.block wb hwl hnh]; exact HX.out.2.2.2) (hkw.not hwl hnh).2 (hra.move hmv) (fun b o hs => hkw.not (hS b o hs).1 (hS b o hs).2)
    have HR : Hid (j + gk = e.args.length /\ dD hid w1 wr /\ es = es1 ++ (u ++ v) /\ cZ rec true e.text bound (j + 1) (e.args.drop (j + 1)) = some v /\ Good (σ ++ es1) wr /\ dD hid w wr) := ⟨hle, hkeep, hrest ▸ hes, hv, hGr, hkw⟩
    clear hle hkeep hes hwa hGr hkw hu hv hra hrest hmv hlu hd1
    go_wp2
    generalize hw12 : wr.alloc (.cells #[.int .i64 e.args[j].kind, .int .i64 e.args[j].n, .string ⟨e.args[j].text.toArray⟩, .slice vp vn vc] 43) = w12
    have hB12 : Below wr.heap.size wr w12 := hw12 ▸ (Below.refl _ _).alloc (Nat.le_refl _) _
    have hrow : w12.heap[wr.heap.size]? = some (.cells #[.int .i64 e.args[j].kind, .int .i64 e.args[j].n, .string ⟨e.args[j].text.toArray⟩, .slice vp vn vc] 43 (0, 0)) := by
     rw [<- hw12]
     show (wr.heap.push _)[wr.heap.size]? = _
     rw [Array.getElem?_push_size]
    have hrl : wr.heap.size < w12.heap.size := (Array.getElem?_eq_some_iff.1 hrow).1
    have hk1 : dD hid w1 wr := HR.out.2.1
    have hkw : dD hid w wr := HR.out.2.2.2.2.2
    have hdl : w.heap.size < wr.heap.size := Nat.lt_of_lt_of_le HD.out.2.2.2.2.1 hk1.size
    have hde : ∀ o, w12.cell? ⟨w.heap.size, o, none⟩ = w1.cell? ⟨w.heap.size, o, none⟩ := fun o => (hB12.cell (p := ⟨w.heap.size, o, none⟩) hdl).trans (hk1.cell HD.out.2.2.2.2.1 HD.out.2.2.2.2.2)
    have hmv : ∀ b o, S b o -> S b o /\ w12.cell? ⟨b, o, none⟩ = w.cell? ⟨b, o, none⟩ := fun b o hs => ⟨hs, (hB12.cell (p := ⟨b, o, none⟩) (hkw.not (hS b o hs).1 (hS b o hs).2).1).trans (hkw.cell (hS b o hs).1 (hS b o hs).2)⟩
    have ha12 : amb w12 := amb.keep (hkw.amb C HX.out.2.1 HX.out.1) hB12.size fun k hk => hB12.block k (Nat.lt_of_lt_of_le hk (hkw.amb C HX.out.2.1 HX.out.1).size)
    refine Ns (w0 := ⟨w12, fun b o => S b o \/ b = w.heap.size, fun _ => False, none⟩) (E := { tt := tt, fs := [] }) (k := Oe 9) (r := bound ++ [e.text]) (S := Vo e bound) (ds := [70, 71, 72, 73, 74, 75, 76, 9]) ((dY.nil Yr).at (jX.none ha12)) pq (by kernel_rfl) ?hv ?hi ?_
    case hv =>
     refine (show _ = (gd (([] : List Str).length + bound.length)).bind (fun _ => (gd ((([] : List Str) ++ bound).length + [e.text].length)).bind fun _ => some ((([] : List Str) ++ bound) ++ [e.text])) by kernel_rfl).trans ?_
     have hgd' := fM hgd
     have g1 : gd (([] : List Str).length + bound.length) = some () := by unfold gd; simp; omega
     have g2 : gd ((([] : List Str) ++ bound).length + [e.text].length) = some () := by unfold gd; simp; omega
     rw [g1, g2]; rfl
    case hi =>
     exact Tv (HX.out.2.2.1.move hmv) (HA.out.move hmv) (fun b o hs => Nat.lt_of_lt_of_le (hkw.not (hS b o hs).1 (hS b o hs).2).1 hB12.size) (Nat.lt_of_lt_of_le hdl hB12.size) (by rw [hde]; exact HD.out.1) (by rw [hde]; exact HD.out.2.1) (by rw [hde]; exact HD.out.2.2.1) (by rw [hde]; exact HD.out.2.2.2.1) _ rfl rfl rfl rfl
    intro S' a' w13 G' hk' hI hkept
    obtain ⟨hB13, S2, hrb2, hS2⟩ := GH hI hk' (by rw [hkept.1]; exact (by decide : 9 < 82))
    have hs3 : ∀ b o, S2 b o -> (b < wr.heap.size -> ¬ hid wr b) /\ b < w13.heap.size := fun b o hs => ⟨fun hlt hh => by
     rcases (hS2 b o hs).1 with (h | h) | h
     ·exact (hkw.not (hS b o h).1 (hS b o h).2).2 hh
     ·exact (hk1.not HD.out.2.2.2.2.1 HD.out.2.2.2.2.2).2 (h ▸ hh)
     ·have := hB12.size; omega, (hS2 b o hs).2⟩
    have hr13 : ∀ o, w13.cell? ⟨wr.heap.size, o, none⟩ = w12.cell? ⟨wr.heap.size, o, none⟩ := fun o => hB13.cell (p := ⟨wr.heap.size, o, none⟩) hrl
    have k0 : w13.cell? ⟨wr.heap.size, 0, none⟩ = some (.int .i64 e.args[j].kind) := by rw [hr13]; simp [World.cell?, hrow]
    have k1 : w13.cell? ⟨wr.heap.size, 1, none⟩ = some (.int .i64 e.args[j].n) := by rw [hr13]; simp [World.cell?, hrow]
    have k2 : w13.cell? ⟨wr.heap.size, 2, none⟩ = some (.string ⟨e.args[j].text.toArray⟩) := by rw [hr13]; simp [World.cell?, hrow]
    have k3 : w13.cell? ⟨wr.heap.size, 3, none⟩ = some (.slice vp vn vc) := by rw [hr13]; simp [World.cell?, hrow]
    have hgo3 := hgo w13 (hB12.trans (hB13.mono hB12.size)) S2 _ hrb2 hs3
    have hae : a' = ⟨#[Value.pointer (some ⟨wb, 0, none⟩), Value.agg #[Value.int IntKind.i64 7, Value.int IntKind.i64 e.n, Value.string ⟨e.text.toArray⟩, Value.slice (some ⟨ab, ao, none⟩) e.args.length cap], vb, undef, Value.pointer (some ⟨w.heap.size, 0, none⟩), undef, Value.bool true, Value.int IntKind.i64 (j : Int), Value.pointer (some ⟨wr.heap.size, 0, none⟩), a'.tmps.getD 9 undef, Value.pointer (some ⟨w.heap.size, 0, none⟩), Value.int IntKind.i64 7, Value.bool false, Value.bool false, undef, undef, undef, undef, undef, Value.bool false, undef, undef, undef, undef, undef, undef, undef, undef, undef, undef, undef, undef, undef, Value.pointer (some ⟨w.heap.size, 0, none⟩), Value.int IntKind.i64 7, Value.bool true, Value.bool true, undef, undef, undef, Value.bool true, Value.bool true, Value.bool true, Value.pointer (some ⟨wb, 0, none⟩), Value.pointer (some ⟨wb, 0, none⟩), Value.pointer (some ⟨wb, 1, none⟩), Value.nilFunc, Value.bool false, Value.bool false, undef, undef, undef, undef, undef, undef, undef, Value.pointer (some ⟨w.heap.size, 3, none⟩), Value.slice (some ⟨ab, ao, none⟩) e.args.length cap, Value.int IntKind.i64 (e.args.length : Int), Value.int IntKind.i64 (j : Int), Value.bool true, Value.int IntKind.i64 (j : Int), Value.pointer (some ⟨ab, ao + j * 4, none⟩), Value.agg #[Value.int IntKind.i64 e.args[j].kind, Value.int IntKind.i64 e.args[j].n, Value.string ⟨e.args[j].text.toArray⟩, Value.slice vp vn vc], vb, Value.bool true, Value.bool true, Value.int IntKind.i64 (j : Int), Value.bool true, Value.bool true, a'.tmps.getD 70 undef, a'.tmps.getD 71 undef, a'.tmps.getD 72 undef, a'.tmps.getD 73 undef, a'.tmps.getD 74 undef, a'.tmps.getD 75 undef, a'.tmps.getD 76 undef, u77, u78, u79, u80, u81], []⟩ := (hkept.eq hI.nodef).trans (by kernel_rfl)
    generalize a'.tmps.getD 9 undef = vb2 at hgo3 hae
    generalize a'.tmps.getD 70 undef = x70 at hae
    generalize a'.tmps.getD 71 undef = x71 at hae
    generalize a'.tmps.getD 72 undef = x72 at hae
    generalize a'.tmps.getD 73 undef = x73 at hae
    generalize a'.tmps.getD 74 undef = x74 at hae
    generalize a'.tmps.getD 75 undef = x75 at hae
    generalize a'.tmps.getD 76 undef = x76 at hae
    clear hr13 hs3 hS2 hrb2 hB13 hI hkept hk' hgo ha12 hmv hde hdl hkw hk1 hrl hrow hB12 hw12 f0 f1 f2 f3
    subst hae
    simp only [Exit.then]
    go_wp2_with (go_at_call 198; refine hgo3.mono ?_; rintro r w4 ⟨rfl, h4⟩; have H4 : Hid (Good (σ ++ es1 ++ u) w4 /\ dD hid wr w4) := h4; clear h4)
    go_roundg (gk - 1)
    case measure => have := HR.out.1; omega
    case rel =>
     obtain ⟨q1, q2, q3, q4, _⟩ := HR.out
     refine ⟨j + 1, rfl, by omega, q2.trans H4.out.2, es1 ++ u, v, by rw [q3, List.append_assoc], q4, ?_⟩
     rw [<- List.append_assoc]
     exact H4.out.1
  ·have HR : Hid (qE rec Good hid true e.text bound e.args σ es w1 j gk wr) := hR
   clear hR
   go_wp2
   refine bodyPost_end (results_none rfl _ _ _) rfl ?_
   obtain ⟨q1, q2, es1, rest, q3, q4, q5⟩ := HR.out
   have hr : rest = [] := by
    rw [List.drop_eq_nil_of_le (by omega)] at q4
    exact (Option.some.inj q4).symm
   subst hr
   rw [List.append_nil] at q3
   subst q3
   exact ⟨rfl, q5, HK.out.1.trans q2⟩
set_option maxHeartbeats 8000000 in
set_option maxRecDepth 100000 in
theorem WI {g : Nat} {caps : Array Value} {Good : List Ev -> World -> Prop} {hid : World -> Nat -> Prop} (C : Clo g caps Good hid) {rec : af -> List Str -> Option (List Ev)} (IH : Visits g caps Good hid rec)
  (e : af) (bound : List Str) (es σ : List Ev) (w : World) (S : Nat -> Nat -> Prop) (ap : Option Addr) (ab ao cap : Nat) (hap : e.args ≠ [] -> ap = some ⟨ab, ao, none⟩) (vb : Value) (wb : Nat) (T : TypeId)
  (hk : e.kind = 9) (hbl : bound.length <= 34359738368) (hra0 : Rep w S (.list (.base .expr) e.args) (.slice ap e.args.length cap)) (hes : cZ rec true e.text bound 0 e.args = some es) (ha : amb w) (hG : Good σ w) (hl : σ.length + es.length <= 34359738368) (hal : e.args.length <= 34359738368)
  (hwb : w.heap[wb]? = some (.cells #[.func (.func g) #[] caps, .nilFunc] T (0, 0))) (hnh : ¬ hid w wb)
  (hcap : e.args.length <= cap) (hvs : ∀ (i : Nat) (x : af), e.args[i]? = some x -> ∃ va, w.cell? ⟨ab, ao + i * 4, none⟩ = some (.int .i64 x.kind) /\ w.cell? ⟨ab, ao + i * 4 + 1, none⟩ = some (.int .i64 x.n) /\ w.cell? ⟨ab, ao + i * 4 + 2, none⟩ = some (.string ⟨x.text.toArray⟩) /\ w.cell? ⟨ab, ao + i * 4 + 3, none⟩ = some va /\ Rep w S (.list (.base .expr) x.args) va /\ ab < w.heap.size /\ ¬ hid w ab)
  (hrb : Rep w S (.list (.base .str) bound) vb) (hS : ∀ b o, S b o -> b < w.heap.size /\ ¬ hid w b) :
  Calls Tryz.prog 198 #[.pointer (some ⟨wb, 0, none⟩), .agg (iO e (.slice ap e.args.length cap)), vb] w fun r w' => r = .returned (.tuple #[]) /\ Good (σ ++ es) w' /\ dD hid w w' := by
 unfold iO
 rw [hk]
 have c0 : w.cell? ⟨wb, 1, none⟩ = some .nilFunc := by simp [World.cell?, hwb]
 have hwl : wb < w.heap.size := (Array.getElem?_eq_some_iff.1 hwb).1
 have hfn : ∀ W : World, (binOp BinOp.neq 141 .nilFunc .nilFunc).run Tryz.prog W = .ok (.bool false) W := fun W => by kernel_rfl
 have HA : Hid (Rep w S (.list (.base .expr) e.args) (.slice ap e.args.length cap)) := hra0
 have HX : Hid (amb w /\ Good σ w /\ Rep w S (.list (.base .str) bound) vb /\ w.heap[wb]? = some (.cells #[.func (.func g) #[] caps, .nilFunc] T (0, 0))) := ⟨ha, hG, hrb, hwb⟩
 have HV : Hid (∀ (i : Nat) (x : af), e.args[i]? = some x -> ∃ va, w.cell? ⟨ab, ao + i * 4, none⟩ = some (.int .i64 x.kind) /\ w.cell? ⟨ab, ao + i * 4 + 1, none⟩ = some (.int .i64 x.n) /\ w.cell? ⟨ab, ao + i * 4 + 2, none⟩ = some (.string ⟨x.text.toArray⟩) /\ w.cell? ⟨ab, ao + i * 4 + 3, none⟩ = some va /\ Rep w S (.list (.base .expr) x.args) va /\ ab < w.heap.size /\ ¬ hid w ab) := hvs
 have HE : Hid (cZ rec true e.text bound 0 e.args = some es) := hes
 clear ha hG hrb hwb hvs hes hra0
 go_enter Tryz.func198, Tryz.ntmps198
 go_wp2
 generalize hw1 : w.alloc (.cells #[.int .i64 9, .int .i64 e.n, .string ⟨e.text.toArray⟩, .slice ap e.args.length cap] 43) = w1
 have HD : Hid (w1.cell? ⟨w.heap.size, 0, none⟩ = some (.int .i64 e.kind) /\ w1.cell? ⟨w.heap.size, 1, none⟩ = some (.int .i64 e.n) /\ w1.cell? ⟨w.heap.size, 2, none⟩ = some (.string ⟨e.text.toArray⟩) /\ w1.cell? ⟨w.heap.size, 3, none⟩ = some (.slice ap e.args.length cap) /\ w.heap.size < w1.heap.size /\ ¬ hid w1 w.heap.size) := by
  have hrow : w1.heap[w.heap.size]? = some (.cells #[.int .i64 9, .int .i64 e.n, .string ⟨e.text.toArray⟩, .slice ap e.args.length cap] 43 (0, 0)) := by
   rw [<- hw1]
   show (w.heap.push _)[w.heap.size]? = _
   rw [Array.getElem?_push_size]
  have hB0 : Below w.heap.size w w1 := hw1 ▸ (Below.refl _ _).alloc (Nat.le_refl _) _
  refine ⟨by rw [hk]; simp [World.cell?, hrow], by simp [World.cell?, hrow], by simp [World.cell?, hrow], by simp [World.cell?, hrow], (Array.getElem?_eq_some_iff.1 hrow).1, fun hh => ?_⟩
  have := (C.keep w w1 σ HX.out.2.1 (fun c hc => hB0.block c (C.lt w σ c HX.out.2.1 hc).2) hB0.size).2 _ hh
  have := (C.lt w σ _ HX.out.2.1 this).2
  omega
 have hB1 : Below w.heap.size w w1 := hw1 ▸ (Below.refl _ _).alloc (Nat.le_refl _) _
 have HK : Hid (dD hid w w1 /\ Good σ w1) := ⟨(C.below HX.out.2.1 hB1).2, (C.below HX.out.2.1 hB1).1⟩
 have hw1s : w.heap.size <= w1.heap.size := hB1.size
 clear hB1 hw1
 go_loopg [59] e.args.length (fun k i wr => ∃ j : Nat, i = .int .i64 j /\ qE rec Good hid true e.text bound e.args σ es w1 j k wr)
 case atStart =>
  exact ⟨0, rfl, by omega, ⟨rfl, rfl, rfl, Nat.le_refl _, fun _ _ _ => rfl, fun c hc => .inl hc⟩, [], es, rfl, HE.out, by rw [List.append_nil]; exact HK.out.2⟩
 case round =>
  obtain ⟨j, rfl, hR⟩ := hrel
  by_cases hj : j < e.args.length
  ·have hap' := hap (fun h => by rw [h] at hj; simp at hj)
   subst hap'
   obtain ⟨hle, hkeep, es1, rest, hes, hwa, hGr⟩ := hR
   have hkw : dD hid w wr := HK.out.1.trans hkeep
   obtain ⟨va, f0, f1, f2, f3, hra, hab, hnab⟩ := HV.out j e.args[j] (zF hj)
   rw [<- hkw.cell hab hnab] at f0 f1 f2 f3
   obtain ⟨vp, vn, vc, rfl⟩ := oJ hra
   rw [List.drop_eq_getElem_cons hj] at hwa
   by_cases hj0 : j = 0
   ·subst hj0
    simp only [cZ, Bool.true_and, Nat.lt_irrefl, decide_false, Bool.false_eq_true, if_false] at hwa
    obtain ⟨u, hu, hwa⟩ := zB.1 hwa
    obtain ⟨v, hv, hwa⟩ := zB.1 hwa
    have hrest : rest = u ++ v := (Option.some.inj hwa).symm
    have hlu : (σ ++ es1).length + u.length <= 34359738368 := by rw [hes, hrest] at hl; simp only [List.length_append] at hl ⊢; omega
    have hmv : ∀ b o, S b o -> S b o /\ wr.cell? ⟨b, o, none⟩ = w.cell? ⟨b, o, none⟩ := fun b o hs => ⟨hs, hkw.cell (hS b o hs).1 (hS b o hs).2⟩
    have hgo := Visits.go C IH hu (hkw.amb C HX.out.2.1 HX.out.1) hGr hlu (by rw [hkw.block wb hwl hnh]; exact HX.out.2.2.2) (hkw.not hwl hnh).2 (hra.move hmv) (HX.out.2.2.1.move hmv) (fun b o hs => hkw.not (hS b o hs).1 (hS b o hs).2)
    have HR : Hid (0 + gk = e.args.length /\ dD hid w1 wr /\ es = es1 ++ (u ++ v) /\ cZ rec true e.text bound (0 + 1) (e.args.drop (0 + 1)) = some v) := ⟨hle, hkeep, hrest ▸ hes, hv⟩
    clear hle hkeep hes hwa hGr hkw hu hv hra hrest hmv hlu
    simp only [Nat.zero_mul, Nat.add_zero] at f0 f1 f2 f3
    go_wp2_with (go_at_call 198; refine (hgo _ ((Below.refl _ _).alloc (Nat.le_refl _) _)).mono ?_; rintro r w4 ⟨rfl, h4⟩; have H4 : Hid (Good (σ ++ es1 ++ u) w4 /\ dD hid wr w4) := h4; clear h4)
    go_roundg (gk - 1)
    case measure => have := HR.out.1; omega
    case rel =>
     obtain ⟨q1, q2, q3, q4⟩ := HR.out
     refine ⟨0 + 1, rfl, by omega, q2.trans H4.out.2, es1 ++ u, v, by rw [q3, List.append_assoc], q4, ?_⟩
     rw [<- List.append_assoc]
     exact H4.out.1
   ·have hj1 : (0 : Int) < (j : Int) := by omega
    have hd1 : decide (0 < j) = true := by simp; omega
    simp only [cZ, Bool.true_and, hd1, if_true] at hwa
    obtain ⟨u, hu, hwa⟩ := zB.1 hwa
    obtain ⟨_, hgd, hu⟩ := zB.1 hu
    obtain ⟨v, hv, hwa⟩ := zB.1 hwa
    have hrest : rest = u ++ v := (Option.some.inj hwa).symm
    have hlu : (σ ++ es1).length + u.length <= 34359738368 := by rw [hes, hrest] at hl; simp only [List.length_append] at hl ⊢; omega
    have hmv : ∀ b o, S b o -> S b o /\ wr.cell? ⟨b, o, none⟩ = w.cell? ⟨b, o, none⟩ := fun b o hs => ⟨hs, hkw.cell (hS b o hs).1 (hS b o hs).2⟩
    have hgo := Visits.go2 C IH hu (hkw.amb C HX.out.2.1 HX.out.1) hGr hlu (by rw [hkw.block wb hwl hnh]; exact HX.out.2.2.2) (hkw.not hwl hnh).2 (hra.move hmv) (fun b o hs => hkw.not (hS b o hs).1 (hS b o hs).2)
    have HR : Hid (j + gk = e.args.length /\ dD hid w1 wr /\ es = es1 ++ (u ++ v) /\ cZ rec true e.text bound (j + 1) (e.args.drop (j + 1)) = some v /\ Good (σ ++ es1) wr /\ dD hid w wr) := ⟨hle, hkeep, hrest ▸ hes, hv, hGr, hkw⟩
    clear hle hkeep hes hwa hGr hkw hu hv hra hrest hmv hlu hd1
    go_wp2
    generalize hw12 : wr.alloc (.cells #[.int .i64 e.args[j].kind, .int .i64 e.args[j].n, .string ⟨e.args[j].text.toArray⟩, .slice vp vn vc] 43) = w12
    have hB12 : Below wr.heap.size wr w12 := hw12 ▸ (Below.refl _ _).alloc (Nat.le_refl _) _
    have hrow : w12.heap[wr.heap.size]? = some (.cells #[.int .i64 e.args[j].kind, .int .i64 e.args[j].n, .string ⟨e.args[j].text.toArray⟩, .slice vp vn vc] 43 (0, 0)) := by
     rw [<- hw12]
     show (wr.heap.push _)[wr.heap.size]? = _
     rw [Array.getElem?_push_size]
    have hrl : wr.heap.size < w12.heap.size := (Array.getElem?_eq_some_iff.1 hrow).1
    have hk1 : dD hid w1 wr := HR.out.2.1
    have hkw : dD hid w wr := HR.out.2.2.2.2.2
    have hdl : w.heap.size < wr.heap.size := Nat.lt_of_lt_of_le HD.out.2.2.2.2.1 hk1.size
    have hde : ∀ o, w12.cell? ⟨w.heap.size, o, none⟩ = w1.cell? ⟨w.heap.size, o, none⟩ := fun o => (hB12.cell (p := ⟨w.heap.size, o, none⟩) hdl).trans (hk1.cell HD.out.2.2.2.2.1 HD.out.2.2.2.2.2)
    have hmv : ∀ b o, S b o -> S b o /\ w12.cell? ⟨b, o, none⟩ = w.cell? ⟨b, o, none⟩ := fun b o hs => ⟨hs, (hB12.cell (p := ⟨b, o, none⟩) (hkw.not (hS b o hs).1 (hS b o hs).2).1).trans (hkw.cell (hS b o hs).1 (hS b o hs).2)⟩
    have ha12 : amb w12 := amb.keep (hkw.amb C HX.out.2.1 HX.out.1) hB12.size fun k hk => hB12.block k (Nat.lt_of_lt_of_le hk (hkw.amb C HX.out.2.1 HX.out.1).size)
    refine Ns (w0 := ⟨w12, fun b o => S b o \/ b = w.heap.size, fun _ => False, none⟩) (E := { tt := tt, fs := [] }) (k := Oe 9) (r := bound ++ [e.text]) (S := Vo e bound) (ds := [70, 71, 72, 73, 74, 75, 76, 9]) ((dY.nil Yr).at (jX.none ha12)) pq (by kernel_rfl) ?hv ?hi ?_
    case hv =>
     refine (show _ = (gd (([] : List Str).length + bound.length)).bind (fun _ => (gd ((([] : List Str) ++ bound).length + [e.text].length)).bind fun _ => some ((([] : List Str) ++ bound) ++ [e.text])) by kernel_rfl).trans ?_
     have hgd' := fM hgd
     have g1 : gd (([] : List Str).length + bound.length) = some () := by unfold gd; simp; omega
     have g2 : gd ((([] : List Str) ++ bound).length + [e.text].length) = some () := by unfold gd; simp; omega
     rw [g1, g2]; rfl
    case hi =>
     exact Tv (HX.out.2.2.1.move hmv) (HA.out.move hmv) (fun b o hs => Nat.lt_of_lt_of_le (hkw.not (hS b o hs).1 (hS b o hs).2).1 hB12.size) (Nat.lt_of_lt_of_le hdl hB12.size) (by rw [hde]; exact HD.out.1) (by rw [hde]; exact HD.out.2.1) (by rw [hde]; exact HD.out.2.2.1) (by rw [hde]; exact HD.out.2.2.2.1) _ rfl rfl rfl rfl
    intro S' a' w13 G' hk' hI hkept
    obtain ⟨hB13, S2, hrb2, hS2⟩ := GH hI hk' (by rw [hkept.1]; exact (by decide : 9 < 82))
    have hs3 : ∀ b o, S2 b o -> (b < wr.heap.size -> ¬ hid wr b) /\ b < w13.heap.size := fun b o hs => ⟨fun hlt hh => by
     rcases (hS2 b o hs).1 with (h | h) | h
     ·exact (hkw.not (hS b o h).1 (hS b o h).2).2 hh
     ·exact (hk1.not HD.out.2.2.2.2.1 HD.out.2.2.2.2.2).2 (h ▸ hh)
     ·have := hB12.size; omega, (hS2 b o hs).2⟩
    have hr13 : ∀ o, w13.cell? ⟨wr.heap.size, o, none⟩ = w12.cell? ⟨wr.heap.size, o, none⟩ := fun o => hB13.cell (p := ⟨wr.heap.size, o, none⟩) hrl
    have k0 : w13.cell? ⟨wr.heap.size, 0, none⟩ = some (.int .i64 e.args[j].kind) := by rw [hr13]; simp [World.cell?, hrow]
    have k1 : w13.cell? ⟨wr.heap.size, 1, none⟩ = some (.int .i64 e.args[j].n) := by rw [hr13]; simp [World.cell?, hrow]
    have k2 : w13.cell? ⟨wr.heap.size, 2, none⟩ = some (.string ⟨e.args[j].text.toArray⟩) := by rw [hr13]; simp [World.cell?, hrow]
    have k3 : w13.cell? ⟨wr.heap.size, 3, none⟩ = some (.slice vp vn vc) := by rw [hr13]; simp [World.cell?, hrow]
    have hgo3 := hgo w13 (hB12.trans (hB13.mono hB12.size)) S2 _ hrb2 hs3
    have hae : a' = ⟨#[Value.pointer (some ⟨wb, 0, none⟩), Value.agg #[Value.int IntKind.i64 9, Value.int IntKind.i64 e.n, Value.string ⟨e.text.toArray⟩, Value.slice (some ⟨ab, ao, none⟩) e.args.length cap], vb, undef, Value.pointer (some ⟨w.heap.size, 0, none⟩), undef, Value.bool true, Value.int IntKind.i64 (j : Int), Value.pointer (some ⟨wr.heap.size, 0, none⟩), a'.tmps.getD 9 undef, Value.pointer (some ⟨w.heap.size, 0, none⟩), Value.int IntKind.i64 9, Value.bool false, Value.bool false, undef, undef, undef, undef, undef, Value.bool false, undef, undef, undef, undef, undef, undef, undef, undef, undef, undef, undef, undef, undef, Value.pointer (some ⟨w.heap.size, 0, none⟩), Value.int IntKind.i64 9, Value.bool false, Value.bool false, Value.pointer (some ⟨w.heap.size, 0, none⟩), Value.int IntKind.i64 9, Value.bool true, Value.bool true, Value.bool true, Value.bool true, Value.pointer (some ⟨wb, 0, none⟩), Value.pointer (some ⟨wb, 0, none⟩), Value.pointer (some ⟨wb, 1, none⟩), Value.nilFunc, Value.bool false, Value.bool false, undef, undef, undef, undef, undef, undef, undef, Value.pointer (some ⟨w.heap.size, 3, none⟩), Value.slice (some ⟨ab, ao, none⟩) e.args.length cap, Value.int IntKind.i64 (e.args.length : Int), Value.int IntKind.i64 (j : Int), Value.bool true, Value.int IntKind.i64 (j : Int), Value.pointer (some ⟨ab, ao + j * 4, none⟩), Value.agg #[Value.int IntKind.i64 e.args[j].kind, Value.int IntKind.i64 e.args[j].n, Value.string ⟨e.args[j].text.toArray⟩, Value.slice vp vn vc], vb, Value.bool true, Value.bool true, Value.int IntKind.i64 (j : Int), Value.bool true, Value.bool true, a'.tmps.getD 70 undef, a'.tmps.getD 71 undef, a'.tmps.getD 72 undef, a'.tmps.getD 73 undef, a'.tmps.getD 74 undef, a'.tmps.getD 75 undef, a'.tmps.getD 76 undef, u77, u78, u79, u80, u81], []⟩ := (hkept.eq hI.nodef).trans (by kernel_rfl)
    generalize a'.tmps.getD 9 undef = vb2 at hgo3 hae
    generalize a'.tmps.getD 70 undef = x70 at hae
    generalize a'.tmps.getD 71 undef = x71 at hae
    generalize a'.tmps.getD 72 undef = x72 at hae
    generalize a'.tmps.getD 73 undef = x73 at hae
    generalize a'.tmps.getD 74 undef = x74 at hae
    generalize a'.tmps.getD 75 undef = x75 at hae
    generalize a'.tmps.getD 76 undef = x76 at hae
    clear hr13 hs3 hS2 hrb2 hB13 hI hkept hk' hgo ha12 hmv hde hdl hkw hk1 hrl hrow hB12 hw12 f0 f1 f2 f3
    subst hae
    simp only [Exit.then]
    go_wp2_with (go_at_call 198; refine hgo3.mono ?_; rintro r w4 ⟨rfl, h4⟩; have H4 : Hid (Good (σ ++ es1 ++ u) w4 /\ dD hid wr w4) := h4; clear h4)
    go_roundg (gk - 1)
    case measure => have := HR.out.1; omega
    case rel =>
     obtain ⟨q1, q2, q3, q4, _⟩ := HR.out
     refine ⟨j + 1, rfl, by omega, q2.trans H4.out.2, es1 ++ u, v, by rw [q3, List.append_assoc], q4, ?_⟩
     rw [<- List.append_assoc]
     exact H4.out.1
  ·have HR : Hid (qE rec Good hid true e.text bound e.args σ es w1 j gk wr) := hR
   clear hR
   go_wp2
   refine bodyPost_end (results_none rfl _ _ _) rfl ?_
   obtain ⟨q1, q2, es1, rest, q3, q4, q5⟩ := HR.out
   have hr : rest = [] := by
    rw [List.drop_eq_nil_of_le (by omega)] at q4
    exact (Option.some.inj q4).symm
   subst hr
   rw [List.append_nil] at q3
   subst q3
   exact ⟨rfl, q5, HK.out.1.trans q2⟩
set_option maxHeartbeats 8000000 in
set_option maxRecDepth 100000 in
theorem Qi {g : Nat} {caps : Array Value} {Good : List Ev -> World -> Prop} {hid : World -> Nat -> Prop} (C : Clo g caps Good hid) {rec : af -> List Str -> Option (List Ev)} (IH : Visits g caps Good hid rec)
  (e : af) (bound : List Str) (es σ : List Ev) (w : World) (S : Nat -> Nat -> Prop) (ap : Option Addr) (ab ao cap : Nat) (hap : e.args ≠ [] -> ap = some ⟨ab, ao, none⟩) (vb : Value) (wb : Nat) (T : TypeId)
  (hk : e.kind = 3) (hct : bound.contains e.text = true) (hbl : bound.length <= 34359738368) (hes : cZ rec false e.text bound 0 e.args = some es) (ha : amb w) (hG : Good σ w) (hl : σ.length + es.length <= 34359738368) (hal : e.args.length <= 34359738368)
  (hwb : w.heap[wb]? = some (.cells #[.func (.func g) #[] caps, .nilFunc] T (0, 0))) (hnh : ¬ hid w wb)
  (hcap : e.args.length <= cap) (hvs : ∀ (i : Nat) (x : af), e.args[i]? = some x -> ∃ va, w.cell? ⟨ab, ao + i * 4, none⟩ = some (.int .i64 x.kind) /\ w.cell? ⟨ab, ao + i * 4 + 1, none⟩ = some (.int .i64 x.n) /\ w.cell? ⟨ab, ao + i * 4 + 2, none⟩ = some (.string ⟨x.text.toArray⟩) /\ w.cell? ⟨ab, ao + i * 4 + 3, none⟩ = some va /\ Rep w S (.list (.base .expr) x.args) va /\ ab < w.heap.size /\ ¬ hid w ab)
  (hrb : Rep w S (.list (.base .str) bound) vb) (hS : ∀ b o, S b o -> b < w.heap.size /\ ¬ hid w b) :
  Calls Tryz.prog 198 #[.pointer (some ⟨wb, 0, none⟩), .agg (iO e (.slice ap e.args.length cap)), vb] w fun r w' => r = .returned (.tuple #[]) /\ Good (σ ++ es) w' /\ dD hid w w' := by
 unfold iO
 have c0 : w.cell? ⟨wb, 1, none⟩ = some .nilFunc := by simp [World.cell?, hwb]
 have hwl : wb < w.heap.size := (Array.getElem?_eq_some_iff.1 hwb).1
 have HX : Hid (amb w /\ Good σ w /\ Rep w S (.list (.base .str) bound) vb /\ w.heap[wb]? = some (.cells #[.func (.func g) #[] caps, .nilFunc] T (0, 0))) := ⟨ha, hG, hrb, hwb⟩
 have HV : Hid (∀ (i : Nat) (x : af), e.args[i]? = some x -> ∃ va, w.cell? ⟨ab, ao + i * 4, none⟩ = some (.int .i64 x.kind) /\ w.cell? ⟨ab, ao + i * 4 + 1, none⟩ = some (.int .i64 x.n) /\ w.cell? ⟨ab, ao + i * 4 + 2, none⟩ = some (.string ⟨x.text.toArray⟩) /\ w.cell? ⟨ab, ao + i * 4 + 3, none⟩ = some va /\ Rep w S (.list (.base .expr) x.args) va /\ ab < w.heap.size /\ ¬ hid w ab) := hvs
 have hn : ¬ posOf e.text 0 bound < 0 := fun h => by rw [(Dx _ _ _).1 h] at hct; cases hct
 have hcall := Jm bound e.text S vb hbl w ha hrb (fun b o hs => (hS b o hs).1)
 have HE : Hid (cZ rec false e.text bound 0 e.args = some es) := hes
 clear ha hG hrb hwb hvs hes hct
 go_enter Tryz.func198, Tryz.ntmps198
 go_wp2_with (go_at_call 112; refine (hcall _ ((Below.refl _ _).alloc (Nat.le_refl _) _)).mono ?_; rintro e2 w1 ⟨rfl, hB⟩; have HB : Hid (Below _ _ w1) := hB; have d0 := hB.cell (p := ⟨w.heap.size, 0, none⟩) (by simp); have d3 := hB.cell (p := ⟨w.heap.size, 3, none⟩) (by simp); clear hB c0 hcall)
 have hB1 : Below w.heap.size w w1 := ((Below.refl _ _).alloc (Nat.le_refl _) _).trans (HB.out.mono (by simp))
 have HK : Hid (dD hid w w1 /\ Good σ w1) := ⟨(C.below HX.out.2.1 hB1).2, (C.below HX.out.2.1 hB1).1⟩
 have hw1s : w.heap.size <= w1.heap.size := hB1.size
 clear hB1 HB d0 d3
 go_loopg [59] e.args.length (fun k i wr => ∃ j : Nat, i = .int .i64 j /\ qE rec Good hid false e.text bound e.args σ es w1 j k wr)
 case atStart =>
  exact ⟨0, rfl, by omega, ⟨rfl, rfl, rfl, Nat.le_refl _, fun _ _ _ => rfl, fun c hc => .inl hc⟩, [], es, rfl, HE.out, by rw [List.append_nil]; exact HK.out.2⟩
 case round =>
  obtain ⟨j, rfl, hR⟩ := hrel
  by_cases hj : j < e.args.length
  ·have hap' := hap (fun h => by rw [h] at hj; simp at hj)
   subst hap'
   obtain ⟨hle, hkeep, es1, rest, hes, hwa, hGr⟩ := hR
   have hkw : dD hid w wr := HK.out.1.trans hkeep
   obtain ⟨va, f0, f1, f2, f3, hra, hab, hnab⟩ := HV.out j e.args[j] (zF hj)
   rw [<- hkw.cell hab hnab] at f0 f1 f2 f3
   obtain ⟨vp, vn, vc, rfl⟩ := oJ hra
   rw [List.drop_eq_getElem_cons hj] at hwa
   simp only [cZ, Bool.false_and, Bool.false_eq_true, if_false] at hwa
   obtain ⟨u, hu, hwa⟩ := zB.1 hwa
   obtain ⟨v, hv, hwa⟩ := zB.1 hwa
   have hrest : rest = u ++ v := (Option.some.inj hwa).symm
   have hlu : (σ ++ es1).length + u.length <= 34359738368 := by rw [hes, hrest] at hl; simp only [List.length_append] at hl ⊢; omega
   have hmv : ∀ b o, S b o -> S b o /\ wr.cell? ⟨b, o, none⟩ = w.cell? ⟨b, o, none⟩ := fun b o hs => ⟨hs, hkw.cell (hS b o hs).1 (hS b o hs).2⟩
   have hgo := Visits.go C IH hu (hkw.amb C HX.out.2.1 HX.out.1) hGr hlu (by rw [hkw.block wb hwl hnh]; exact HX.out.2.2.2) (hkw.not hwl hnh).2 (hra.move hmv) (HX.out.2.2.1.move hmv) (fun b o hs => hkw.not (hS b o hs).1 (hS b o hs).2)
   have HR : Hid (j + gk = e.args.length /\ dD hid w1 wr /\ es = es1 ++ (u ++ v) /\ cZ rec false e.text bound (j + 1) (e.args.drop (j + 1)) = some v) := ⟨hle, hkeep, hrest ▸ hes, hv⟩
   clear hle hkeep hes hwa hGr hkw hu hv hra hrest hmv hlu
   go_wp2_with (go_at_call 198; refine (hgo _ ((Below.refl _ _).alloc (Nat.le_refl _) _)).mono ?_; rintro r w4 ⟨rfl, h4⟩; have H4 : Hid (Good (σ ++ es1 ++ u) w4 /\ dD hid wr w4) := h4; clear h4)
   go_roundg (gk - 1)
   case measure => have := HR.out.1; omega
   case rel =>
    obtain ⟨q1, q2, q3, q4⟩ := HR.out
    refine ⟨j + 1, rfl, by omega, q2.trans H4.out.2, es1 ++ u, v, by rw [q3, List.append_assoc], q4, ?_⟩
    rw [<- List.append_assoc]
    exact H4.out.1
  ·have HR : Hid (qE rec Good hid false e.text bound e.args σ es w1 j gk wr) := hR
   clear hR
   go_wp2
   refine bodyPost_end (results_none rfl _ _ _) rfl ?_
   obtain ⟨q1, q2, es1, rest, q3, q4, q5⟩ := HR.out
   have hr : rest = [] := by
    rw [List.drop_eq_nil_of_le (by omega)] at q4
    exact (Option.some.inj q4).symm
   subst hr
   rw [List.append_nil] at q3
   subst q3
   exact ⟨rfl, q5, HK.out.1.trans q2⟩
theorem Gn {g : Nat} {caps : Array Value} {Good : List Ev -> World -> Prop} {hid : World -> Nat -> Prop} (C : Clo g caps Good hid) : ∀ n, Visits g caps Good hid (jB n)
 | 0 => fun e bound es σ w S va vb wb T h => by cases h
 | n + 1 => by
  intro e bound es σ w S va vb wb T h ha hG hl hwb hnh hra hrb hS
  have IH := Gn C n
  unfold jB at h
  obtain ⟨_, g1, h⟩ := zB.1 h
  obtain ⟨_, g2, h⟩ := zB.1 h
  have hbl := fM g1
  have hal := fM g2
  split at h
  ·rename_i hc
   have := (Option.some.inj h).symm
   subst this
   exact TL C e bound σ w S va vb wb T hc.1 hc.2 ha hG (by simpa using hl) hbl hwb hnh hrb hS
  ·rename_i hc
   obtain ⟨ap, ab, ao, cap, hva, hap, hcap, hvs⟩ : ∃ (ap : Option Addr) (ab ao cap : Nat), va = .slice ap e.args.length cap /\ (e.args ≠ [] -> ap = some ⟨ab, ao, none⟩) /\ e.args.length <= cap /\ ∀ (i : Nat) (x : af), e.args[i]? = some x -> ∃ va, w.cell? ⟨ab, ao + i * 4, none⟩ = some (.int .i64 x.kind) /\ w.cell? ⟨ab, ao + i * 4 + 1, none⟩ = some (.int .i64 x.n) /\ w.cell? ⟨ab, ao + i * 4 + 2, none⟩ = some (.string ⟨x.text.toArray⟩) /\ w.cell? ⟨ab, ao + i * 4 + 3, none⟩ = some va /\ Rep w S (.list (.base .expr) x.args) va /\ ab < w.heap.size /\ ¬ hid w ab := by
    generalize hd : D.list (.base .expr) e.args = d at hra
    cases hra with
    | int => cases hd
    | bool => cases hd
    | str => cases hd
    | nil t =>
     injection hd with h1 h2
     subst h1
     have h2 : e.args = [] := eq_of_heq h2
     exact ⟨none, 0, 0, 0, by rw [h2]; rfl, fun h => absurd h2 h, by rw [h2]; exact Nat.le_refl _, fun i x hx => by rw [h2] at hx; simp at hx⟩
    | emp t a cap =>
     injection hd with h1 h2
     subst h1
     have h2 : e.args = [] := eq_of_heq h2
     exact ⟨some a, 0, 0, cap, by rw [h2]; rfl, fun h => absurd h2 h, by rw [h2]; exact Nat.zero_le _, fun i x hx => by rw [h2] at hx; simp at hx⟩
    | list t xs b off cap vs hcap hcc hrr =>
     injection hd with h1 h2
     subst h1
     have h2 : e.args = xs := eq_of_heq h2
     subst h2
     refine ⟨some ⟨b, off, none⟩, b, off, cap, rfl, fun _ => rfl, hcap, fun i x hx => ?_⟩
     have e0 := hcc i x 0 (.int .i64 x.kind) hx rfl
     have e1 := hcc i x 1 (.int .i64 x.n) hx rfl
     have e2 := hcc i x 2 (.str x.text) hx rfl
     have e3 := hcc i x 3 (.list (.base .expr) x.args) hx rfl
     have r0 := lV (hrr i x 0 (.int .i64 x.kind) hx rfl)
     have r1 := lV (hrr i x 1 (.int .i64 x.n) hx rfl)
     have r2 := nS (hrr i x 2 (.str x.text) hx rfl)
     rw [r0] at e0; rw [r1] at e1; rw [r2] at e2
     exact ⟨vs i 3, e0.1, e1.1, e2.1, e3.1, hrr i x 3 _ hx rfl, (hS _ _ e0.2).1, (hS _ _ e0.2).2⟩
   subst hva
   by_cases h3 : e.kind = 3
   ·have hct : bound.contains e.text = true := by
     cases hh : bound.contains e.text with
     | true => rfl
     | false => exact absurd ⟨h3, hh⟩ hc
    have hb : (decide (e.kind = 7) || decide (e.kind = 9)) = false := by rw [h3]; rfl
    rw [hb] at h
    exact Qi C IH e bound es σ w S ap ab ao cap hap vb wb T h3 hct hbl h ha hG hl hal hwb hnh hcap hvs hrb hS
   by_cases h7 : e.kind = 7
   ·have hb : (decide (e.kind = 7) || decide (e.kind = 9)) = true := by rw [h7]; rfl
    rw [hb] at h
    exact WH C IH e bound es σ w S ap ab ao cap hap vb wb T h7 hbl hra h ha hG hl hal hwb hnh hcap hvs hrb hS
   by_cases h9 : e.kind = 9
   ·have hb : (decide (e.kind = 7) || decide (e.kind = 9)) = true := by rw [h9]; rfl
    rw [hb] at h
    exact WI C IH e bound es σ w S ap ab ao cap hap vb wb T h9 hbl hra h ha hG hl hal hwb hnh hcap hvs hrb hS
   have hb : (decide (e.kind = 7) || decide (e.kind = 9)) = false := by simp [h7, h9]
   rw [hb] at h
   exact Qh C IH e bound es σ w S ap ab ao cap hap vb wb T h3 h7 h9 h ha hG hl hal hwb hnh hcap hvs hrb hS
end Go.Proofs.YtgfjbogcidlaeaaGreatDoor
