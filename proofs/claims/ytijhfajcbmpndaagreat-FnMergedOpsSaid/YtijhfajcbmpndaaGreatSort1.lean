/- The library's stable sort, walked: ranges swapped, blocks turned, at elements of k cells. -/
import Derived.Shelf.SlSortFuncK.SWK
import Derived.Shelf.GgSortMore.Bridge
import Derived.Test.YtijhfajcbmpndaaGreatSort0
set_option linter.unusedSimpArgs false
set_option linter.unusedVariables false
namespace Go.Proofs
open Go.Shelf Go.RowKit Go.Lib Go.Sort
variable {P : Program} {ρ : Ren} {α : Type} [Inhabited α] {enc : α → List Value} {k : Nat} {w0 w1 W W' : World} {blk off : Nat} {dk dj : Array α}

theorem SWK.comp (h : SWK enc k w0 blk off dk W) (hblk : blk < w0.heap.size) (h' : SWK enc k W blk off dj W') (hs : dj.size = dk.size) : SWK enc k w0 blk off dj W' := by
  obtain ⟨n, os, rfl⟩ := h'
  exact h.on hblk n dj os hs
theorem SWK.cellAt (h : SWK enc k w0 blk off dk W) {b o : Nat} (hb : b ≠ blk) (hlt : b < w0.heap.size) : W.cell? ⟨b, o, none⟩ = w0.cell? ⟨b, o, none⟩ := by
  obtain ⟨n, os, rfl⟩ := h
  unfold sortWorldK
  rw [cell?_grow _ _ _ (by rw [size_putRowK]; exact hlt), cell?_putRowK_other enc k _ blk off dk _ hb]
  rfl

/-- what is asked of 'less': called at (i, j) in any world that the sort passes through, it answers by lt; it may draw, and lay boxes of its own -/
def LessLaysK (P : Program) (g : Nat) (lb : Array Value) (enc : α → List Value) (k : Nat) (lt : α → α → Bool) (blk off size : Nat) (w : World) : Prop :=
  ∀ (m : Nat) (os : Array Obj) (dk : Array α), dk.size = size → ∀ i j : Nat, i < size → j < size →
    Calls P g (#[.int .i64 i, .int .i64 j] ++ lb) (sortWorldK enc k w blk off m dk os) fun e w' => e = .returned (.bool (lt dk[i]! dk[j]!)) ∧ SWK enc k (sortWorldK enc k w blk off m dk os) blk off dk w'
theorem SWK.lays {g : Nat} {lb : Array Value} {lt : α → α → Bool} {size : Nat} (h : SWK enc k w0 blk off dk W) (hL : LessLaysK P g lb enc k lt blk off size w0) (hs : dk.size = size) (i j : Nat) (hi : i < size) (hj : j < size) :
    Calls P g (#[.int .i64 i, .int .i64 j] ++ lb) W fun e w' => e = .returned (.bool (lt dk[i]! dk[j]!)) ∧ SWK enc k W blk off dk w' := by
  obtain ⟨n, os, rfl⟩ := h
  exact hL n os dk hs i j hi hj
theorem SWK.lessLays {g : Nat} {lb : Array Value} {lt : α → α → Bool} {size : Nat} (h : SWK enc k w0 blk off dk W) (hL : LessLaysK P g lb enc k lt blk off size w0) (hblk : blk < w0.heap.size) (hs : dk.size = size) : LessLaysK P g lb enc k lt blk off size W := by
  intro m os dj hj i j hi hj'
  obtain ⟨n', os', e⟩ := h.on hblk m dj os (hj.trans hs.symm)
  rw [e]
  exact hL n' os' dj hj i j hi hj'
theorem LessLaysK.grow {g : Nat} {lb : Array Value} {lt : α → α → Bool} {size : Nat} (h : LessLaysK P g lb enc k lt blk off size w0) (hblk : blk < w0.heap.size) (os0 : Array Obj) : LessLaysK P g lb enc k lt blk off size (Sort.grow w0 os0) := fun m os dk hs i j hi hj => by
  have e : sortWorldK enc k (Sort.grow w0 os0) blk off m dk os = sortWorldK enc k w0 blk off m dk (os0 ++ os) := by
    unfold sortWorldK; rw [ahead_grow, putRowK_grow enc k (Sort.ahead w0 m) _ blk off _ hblk, grow_grow]
  rw [e]; exact h m _ dk hs i j hi hj

set_option maxHeartbeats 4000000 in
set_option maxRecDepth 100000 in
theorem swapRange_walk (L : LaysGt.n49 P ρ) (hk : ∀ x, (enc x).length = k) (lv : Value) (sf : Nat) (sb : Array Value) (a b n : Nat) (d : Array α)
    (hswap : SwapSwapsK P sf sb enc k blk off d.size) (hH : HoldsK enc k W blk off d) (hblk : blk < W.heap.size) (ha : a + n ≤ d.size) (hb : b + n ≤ d.size) (hsz : d.size < 4611686018427387904) :
    Calls P (ρ.f 49) #[.agg #[lv, .func (.func sf) #[] sb], .int .i64 a, .int .i64 b, .int .i64 n] W fun e w' => e = .returned (.tuple #[]) ∧ SWK enc k W blk off (swr n a b d) w' := by
  have mixed := L.mixed; have t0 := L.t0; have a0 := L.a0; have z0 := L.z0; have v0 := L.v0; have t3 := L.t3; have a3 := L.a3; have z3 := L.z3; have v3 := L.v3; have t4 := L.t4; have a4 := L.a4; have z4 := L.z4; have v4 := L.v4; have t26 := L.t26; have a26 := L.a26; have z26 := L.z26; have v26 := L.v26; have t38 := L.t38; have a38 := L.a38; have z38 := L.z38; have v38 := L.v38; have t42 := L.t42; have a42 := L.a42; have z42 := L.z42; have v42 := L.v42
  have u42 := run_underlying L.t42
  go_enter L.f49, BodyGt.n49_ntmps ρ
  go_wp2
  go_loopw [8] (fun vi wr => ∃ (i : Nat) (dj : Array α), vi = .int .i64 i ∧ i ≤ n ∧ dj.size = d.size ∧ SWK enc k (W.alloc (.cells #[lv, .func (.func sf) #[] sb] (ρ.t 42))) blk off dj wr ∧ swr (n - i) (a + i) (b + i) dj = swr n a b d) (fun vi _ => n - (intOf vi).toNat)
  case atStart => exact ⟨0, d, rfl, Nat.zero_le _, rfl, SWK.start (by rw [alloc_eq_grow]; exact holdsK_grow enc k W _ blk off d hblk hH), rfl⟩
  case round =>
    obtain ⟨i, dj, rfl, hi, hsj, hW, hE⟩ := hrel
    have hb1 : blk < (W.alloc (.cells #[lv, .func (.func sf) #[] sb] (ρ.t 42))).heap.size := by rw [alloc_eq_grow, size_grow]; omega
    have hH1 : HoldsK enc k (W.alloc (.cells #[lv, .func (.func sf) #[] sb] (ρ.t 42))) blk off d := by rw [alloc_eq_grow]; exact holdsK_grow enc k W _ blk off d hblk hH
    have c1 : wr.cell? ⟨W.heap.size, 1, none⟩ = some (.func (.func sf) #[] sb) := by
      rw [hW.cellAt (b := W.heap.size) (by omega) (by rw [alloc_eq_grow, size_grow]; simp)]; simp
    have hHw := hW.holds hb1 hH1 hsj
    have HW : Hid _ := hW
    have HE : Hid _ := hE
    by_cases hin : i < n
    · have hs := hswap wr dj hHw hsj (a + i) (b + i) (by omega) (by omega)
      rw [show ((a + i : Nat) : Int) = (a : Int) + (i : Int) by omega, show ((b + i : Nat) : Int) = (b : Int) + (i : Int) by omega] at hs
      clear hW hE hHw
      go_wp2
      refine ⟨⟨i + 1, swp dj (a + i) (b + i), by congr 1, by omega, by rw [size_swp]; exact hsj, SWK.swap HW.out hk hb1 (a + i) (b + i) (by omega) (by omega), ?_⟩, by simp [intOf]; omega⟩
      rw [← HE.out, show n - i = (n - (i + 1)) + 1 by omega]
      rfl
    · clear hW hE hHw
      go_wp2
      go_end0
      refine ⟨rfl, ?_⟩
      have e := HE.out
      rw [show n - i = 0 by omega] at e
      have e : dj = swr n a b d := e
      rw [← e]
      have := SWK.comp (SWK.alloc (SWK.start hH) (.cells #[lv, .func (.func sf) #[] sb] (ρ.t 42))) hblk HW.out hsj
      exact this

set_option maxHeartbeats 4000000 in
set_option maxRecDepth 100000 in
theorem rotate_walk (L : LaysGt.n42 P ρ) (hk : ∀ x, (enc x).length = k) (lv : Value) (sf : Nat) (sb : Array Value) (a m b : Nat) (d : Array α)
    (hswap : SwapSwapsK P sf sb enc k blk off d.size) (hH : HoldsK enc k W blk off d) (hblk : blk < W.heap.size) (ham : a < m) (hmb : m < b) (hb : b ≤ d.size) (hsz : d.size < 4611686018427387904) :
    Calls P (ρ.f 42) #[.agg #[lv, .func (.func sf) #[] sb], .int .i64 a, .int .i64 m, .int .i64 b] W fun e w' => e = .returned (.tuple #[]) ∧ SWK enc k W blk off (rot m (b - a) (m - a) (b - m) d) w' := by
  have mixed := L.mixed; have t0 := L.t0; have a0 := L.a0; have z0 := L.z0; have v0 := L.v0; have t3 := L.t3; have a3 := L.a3; have z3 := L.z3; have v3 := L.v3; have t4 := L.t4; have a4 := L.a4; have z4 := L.z4; have v4 := L.v4; have t26 := L.t26; have a26 := L.a26; have z26 := L.z26; have v26 := L.v26; have t38 := L.t38; have a38 := L.a38; have z38 := L.z38; have v38 := L.v38; have t42 := L.t42; have a42 := L.a42; have z42 := L.z42; have v42 := L.v42
  have u42 := run_underlying L.t42
  have L49 : LaysGt.n49 P ρ := { L with }
  have e49 : ∀ args w, (callFunc (ρ.f 49) args).run P w = .ok (.enter (ρ.f 49) args) w := enters_of L.f49 (by kernel_rfl) rfl
  have hb1 : blk < (W.alloc (.cells #[lv, .func (.func sf) #[] sb] (ρ.t 42))).heap.size := by rw [alloc_eq_grow, size_grow]; omega
  have hH1 : HoldsK enc k (W.alloc (.cells #[lv, .func (.func sf) #[] sb] (ρ.t 42))) blk off d := by rw [alloc_eq_grow]; exact holdsK_grow enc k W _ blk off d hblk hH
  go_enter L.f42, BodyGt.n42_ntmps ρ
  go_wp2
  go_loopw [8, 9] (fun vi vj wr => ∃ (i j f : Nat) (dj : Array α), vi = .int .i64 i ∧ vj = .int .i64 j ∧ 0 < i ∧ 0 < j ∧ i + j ≤ f ∧ i ≤ m - a ∧ j ≤ b - m ∧ dj.size = d.size ∧ SWK enc k (W.alloc (.cells #[lv, .func (.func sf) #[] sb] (ρ.t 42))) blk off dj wr ∧ rot m f i j dj = rot m (b - a) (m - a) (b - m) d) (fun vi vj _ => (intOf vi).toNat + (intOf vj).toNat)
  case atStart => exact ⟨m - a, b - m, b - a, d, by congr 1; omega, by congr 1; omega, by omega, by omega, by omega, Nat.le_refl _, Nat.le_refl _, rfl, SWK.start hH1, rfl⟩
  case round =>
    obtain ⟨i, j, f, dj, rfl, rfl, hi, hj, hf, him, hjm, hsj, hW, hE⟩ := hrel
    have hHw := hW.holds hb1 hH1 hsj
    have hlt := hW.lt hb1
    have c0 : wr.cell? ⟨W.heap.size, 0, none⟩ = some lv := by
      rw [hW.cellAt (b := W.heap.size) (by omega) (by rw [alloc_eq_grow, size_grow]; simp)]; simp
    have c1 : wr.cell? ⟨W.heap.size, 1, none⟩ = some (.func (.func sf) #[] sb) := by
      rw [hW.cellAt (b := W.heap.size) (by omega) (by rw [alloc_eq_grow, size_grow]; simp)]; simp
    have sr : ∀ x y n : Nat, x + n ≤ d.size → y + n ≤ d.size → Calls P (ρ.f 49) #[.agg #[lv, .func (.func sf) #[] sb], .int .i64 x, .int .i64 y, .int .i64 n] wr fun e w' => e = .returned (.tuple #[]) ∧ SWK enc k wr blk off (swr n x y dj) w' :=
      fun x y n h1 h2 => swapRange_walk L49 hk lv sf sb x y n dj (by rw [hsj]; exact hswap) hHw hlt (by omega) (by omega) (by omega)
    have HW : Hid _ := hW
    have HE : Hid _ := hE
    have SR : Hid _ := sr
    have H0 : Hid _ := hH
    clear hW hE hHw sr hswap hH hH1
    obtain ⟨f', rfl⟩ : ∃ f', f = f' + 1 := ⟨f - 1, by omega⟩
    by_cases hij : i = j
    · subst hij
      have h1 := SR.out (m - i) m i (by omega) (by omega)
      rw [show ((m - i : Nat) : Int) = (m : Int) - (i : Int) by omega] at h1
      clear SR
      go_wp2_with (go_at_fn (ρ.f 49); refine h1.mono ?_; rintro e w' ⟨rfl, hw'⟩)
      go_end0
      refine ⟨rfl, ?_⟩
      have e := HE.out
      rw [rot, if_pos rfl] at e
      rw [← e]
      exact SWK.comp (SWK.alloc (SWK.start H0.out) _) hblk (SWK.comp HW.out hb1 hw' (by rw [size_swr])) (by rw [size_swr]; exact hsj)
    · by_cases hgt : i > j
      · have h1 := SR.out (m - i) m j (by omega) (by omega)
        rw [show ((m - i : Nat) : Int) = (m : Int) - (i : Int) by omega] at h1
        clear SR
        go_wp2_with (go_at_fn (ρ.f 49); refine h1.mono ?_; rintro e w' ⟨rfl, hw'⟩)
        go_roundw
        case rel =>
          refine ⟨i - j, j, f', swr j (m - i) m dj, by congr 1; omega, rfl, by omega, hj, by omega, by omega, hjm, by rw [size_swr]; exact hsj, SWK.comp HW.out hb1 hw' (by rw [size_swr]), ?_⟩
          rw [← HE.out, rot, if_neg hij, if_pos hgt]
        case measure => simp [intOf]; omega
      · have h1 := SR.out (m - i) (m + j - i) i (by omega) (by omega)
        rw [show ((m - i : Nat) : Int) = (m : Int) - (i : Int) by omega, show ((m + j - i : Nat) : Int) = (m : Int) + (j : Int) - (i : Int) by omega] at h1
        clear SR
        go_wp2_with (go_at_fn (ρ.f 49); refine h1.mono ?_; rintro e w' ⟨rfl, hw'⟩)
        go_roundw
        case rel =>
          refine ⟨i, j - i, f', swr i (m - i) (m + j - i) dj, rfl, by congr 1; omega, hi, by omega, by omega, him, by omega, by rw [size_swr]; exact hsj, SWK.comp HW.out hb1 hw' (by rw [size_swr]), ?_⟩
          rw [← HE.out, rot, if_neg hij, if_neg hgt]
        case measure => simp [intOf]; omega
end Go.Proofs
