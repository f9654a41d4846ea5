/- The library's stable sort, walked: blocks of twenty, then merged two by two. -/
import Derived.Test.YtijhfajcbmpndaaGreatSort2
set_option linter.unusedSimpArgs false
set_option linter.unusedVariables false
namespace Go.Sort
variable {α : Type} [Inhabited α] {lt : α → α → Bool}
/-- from a on, blocks of bs places are sorted, up to n -/
def Blk (lt : α → α → Bool) (bs a n : Nat) (d : Array α) : Prop := ∀ t, SortedIn lt (a + t * bs) (min (a + t * bs + bs) n) d
theorem SortedIn.keep {a b lo hi : Nat} {d d' : Array α} (h : SortedIn lt lo hi d) (hp : PermIn a b d d') (ho : hi ≤ a ∨ b ≤ lo) : SortedIn lt lo hi d' :=
  sorted_of_eq h fun t h1 h2 => hp.2.1 t (by omega)
theorem Blk.one {bs n j : Nat} {d d' : Array α} (h : Blk lt bs 0 (j * bs) d) (hp : PermIn (j * bs) n d d') (hs : SortedIn lt (j * bs) n d') (hn : j * bs ≤ n) (hb : n ≤ j * bs + bs) : Blk lt bs 0 n d' := fun t => by
  rw [Nat.zero_add]
  rcases Nat.lt_trichotomy t j with q | q | q
  · have e : (t + 1) * bs ≤ j * bs := Nat.mul_le_mul_right bs q
    rw [Nat.add_mul, Nat.one_mul] at e
    have := h t
    rw [Nat.zero_add] at this
    rw [show min (t * bs + bs) n = min (t * bs + bs) (j * bs) by omega]
    exact this.keep hp (by omega)
  · subst q
    rw [show min (t * bs + bs) n = n by omega]; exact hs
  · have e : (j + 1) * bs ≤ t * bs := Nat.mul_le_mul_right bs q
    rw [Nat.add_mul, Nat.one_mul] at e
    exact fun x y h1 h2 h3 => absurd h3 (by omega)
theorem Blk.next {bs n a b : Nat} {d d' : Array α} (h : Blk lt bs a n d) (hp : PermIn a b d d') (hb : b = a + 2 * bs) : Blk lt bs b n d' := fun t => by
  have := h (t + 2)
  rw [show a + (t + 2) * bs = b + t * bs by rw [Nat.add_mul, hb]; omega] at this
  exact this.keep hp (by omega)
theorem perm_up' {a b n : Nat} {d d' d'' : Array α} (h : PermIn 0 n d d') (h2 : PermIn a b d' d'') (hb : b ≤ n) (hn : n ≤ d.size) : PermIn 0 n d d'' :=
  permIn_trans _ _ _ 0 n h (permIn_mono _ _ a b 0 n (Nat.zero_le _) hb (by rw [h.1]; exact hn) h2)
end Go.Sort
namespace Go.Proofs
open Go.Shelf Go.RowKit Go.Lib Go.Sort
variable {P : Program} {ρ : Ren} {α : Type} [Inhabited α] {enc : α → List Value} {k : Nat} {w0 w1 W W' : World} {blk off : Nat} {dk dj : Array α}

set_option maxHeartbeats 8000000 in
set_option maxRecDepth 100000 in
theorem insertion_walk (L : LaysGt.n29 P ρ) (hk : ∀ x, (enc x).length = k) (lt : α → α → Bool) (g : Nat) (lb : Array Value) (sf : Nat) (sb : Array Value) (a b : Nat) (d : Array α)
    (eg : ∀ args w, (callFunc g args).run P w = .ok (.enter g args) w) (hless : LessLaysK P g lb enc k lt blk off d.size W) (hswap : SwapSwapsK P sf sb enc k blk off d.size)
    (hH : HoldsK enc k W blk off d) (hblk : blk < W.heap.size) (hab : a ≤ b) (hb : b ≤ d.size) (hsz : d.size < 4611686018427387904) :
    Calls P (ρ.f 29) #[.agg #[.func (.func g) #[] lb, .func (.func sf) #[] sb], .int .i64 a, .int .i64 b] W fun e w' => e = .returned (.tuple #[]) ∧ SWK enc k W blk off (Sort.insertionSort lt d a b) w' := by
  have mixed := L.mixed; have t0 := L.t0; have a0 := L.a0; have z0 := L.z0; have v0 := L.v0; have t3 := L.t3; have a3 := L.a3; have z3 := L.z3; have v3 := L.v3; have t4 := L.t4; have a4 := L.a4; have z4 := L.z4; have v4 := L.v4; have t26 := L.t26; have a26 := L.a26; have z26 := L.z26; have v26 := L.v26; have t38 := L.t38; have a38 := L.a38; have z38 := L.z38; have v38 := L.v38; have t42 := L.t42; have a42 := L.a42; have z42 := L.z42; have v42 := L.v42
  have u42 := run_underlying L.t42
  have hb1 : blk < (W.alloc (.cells #[.func (.func g) #[] lb, .func (.func sf) #[] sb] (ρ.t 42))).heap.size := by rw [alloc_eq_grow, size_grow]; omega
  have hH1 : HoldsK enc k (W.alloc (.cells #[.func (.func g) #[] lb, .func (.func sf) #[] sb] (ρ.t 42))) blk off d := by rw [alloc_eq_grow]; exact holdsK_grow enc k W _ blk off d hblk hH
  have hL1 : LessLaysK P g lb enc k lt blk off d.size (W.alloc (.cells #[.func (.func g) #[] lb, .func (.func sf) #[] sb] (ρ.t 42))) := by rw [alloc_eq_grow]; exact hless.grow hblk _
  have cell0 : ∀ (dj : Array α) (wr : World), SWK enc k (W.alloc (.cells #[.func (.func g) #[] lb, .func (.func sf) #[] sb] (ρ.t 42))) blk off dj wr → wr.cell? ⟨W.heap.size, 0, none⟩ = some (.func (.func g) #[] lb) := fun dj wr h => by
    rw [h.cellAt (b := W.heap.size) (by omega) (by rw [alloc_eq_grow, size_grow]; simp)]; simp
  have cell1 : ∀ (dj : Array α) (wr : World), SWK enc k (W.alloc (.cells #[.func (.func g) #[] lb, .func (.func sf) #[] sb] (ρ.t 42))) blk off dj wr → wr.cell? ⟨W.heap.size, 1, none⟩ = some (.func (.func sf) #[] sb) := fun dj wr h => by
    rw [h.cellAt (b := W.heap.size) (by omega) (by rw [alloc_eq_grow, size_grow]; simp)]; simp
  have less : ∀ (dj : Array α) (wr : World) (i j : Nat), SWK enc k (W.alloc (.cells #[.func (.func g) #[] lb, .func (.func sf) #[] sb] (ρ.t 42))) blk off dj wr → dj.size = d.size → i < d.size → j < d.size →
      Calls P g (#[.int .i64 i, .int .i64 j] ++ lb) wr fun e w' => e = .returned (.bool (lt dj[i]! dj[j]!)) ∧ SWK enc k (W.alloc (.cells #[.func (.func g) #[] lb, .func (.func sf) #[] sb] (ρ.t 42))) blk off dj w' := fun dj wr i j h hd hi hj => by
    refine (h.lays hL1 hd i j hi hj).mono ?_
    rintro e w' ⟨rfl, hw⟩
    exact ⟨rfl, h.comp hb1 hw rfl⟩
  have C0 : Hid _ := cell0
  have C1 : Hid _ := cell1
  have LE : Hid _ := less
  have SWp : Hid _ := hswap
  have H0 : Hid (HoldsK enc k W blk off d) := hH
  have H1 : Hid (HoldsK enc k (W.alloc (.cells #[.func (.func g) #[] lb, .func (.func sf) #[] sb] (ρ.t 42))) blk off d) := hH1
  clear cell0 cell1 less hless hL1 hswap hH hH1
  go_enter L.f29, BodyGt.n29_ntmps ρ
  go_wp2
  go_loopw [6] (fun vi wr => ∃ (i : Nat) (dk : Array α), vi = .int .i64 i ∧ a < i ∧ i ≤ b + 1 ∧ dk.size = d.size ∧ SWK enc k (W.alloc (.cells #[.func (.func g) #[] lb, .func (.func sf) #[] sb] (ρ.t 42))) blk off dk wr ∧
      insOuter lt a b i dk = insOuter lt a b (a + 1) d) (fun vi _ => b + 1 - (intOf vi).toNat)
  case atStart => exact ⟨a + 1, d, by congr 1, by omega, by omega, rfl, SWK.start H1.out, rfl⟩
  case round =>
    obtain ⟨i, dk, rfl, hai, hib, hsk, hwr, hO⟩ := hrel
    have HO : Hid (insOuter lt a b i dk = insOuter lt a b (a + 1) d) := hO
    have HW : Hid (SWK enc k (W.alloc (.cells #[.func (.func g) #[] lb, .func (.func sf) #[] sb] (ρ.t 42))) blk off dk wr) := hwr
    clear hO hwr
    by_cases hlt : i < b
    · go_wp2
      go_loopw [7] (fun vj wr2 => ∃ (j : Nat) (dj : Array α), vj = .int .i64 j ∧ a ≤ j ∧ j ≤ i ∧ dj.size = d.size ∧ SWK enc k (W.alloc (.cells #[.func (.func g) #[] lb, .func (.func sf) #[] sb] (ρ.t 42))) blk off dj wr2 ∧
          insInner lt a j dj = insInner lt a i dk) (fun vj _ => (intOf vj).toNat)
      case atStart => exact ⟨i, dk, rfl, by omega, Nat.le_refl _, hsk, HW.out, rfl⟩
      case round =>
        obtain ⟨j, dj, rfl, haj, hji, hsj, hw2, hI⟩ := hrel
        have c0 := C0.out dj _ hw2
        have HW2 : Hid _ := hw2
        have HI : Hid (insInner lt a j dj = insInner lt a i dk) := hI
        clear hw2 hI
        by_cases hja : a < j
        · have hl := LE.out dj _ j (j - 1) HW2.out hsj (by omega) (by omega)
          rw [show (((j - 1 : Nat) : Int)) = (j : Int) - 1 by omega] at hl
          cases hlv : lt dj[j]! dj[j - 1]! with
          | true =>
            rw [hlv] at hl
            go_wp2_with (go_at_fn g; refine hl.mono ?_; rintro e w' ⟨rfl, hw'⟩; have c1 := C1.out dj _ hw'; have hs := SWp.out _ dj (hw'.holds hb1 H1.out hsj) hsj j (j - 1) (by omega) (by omega); rw [show (((j - 1 : Nat) : Int)) = (j : Int) - 1 by omega] at hs; have HWn : Hid _ := hw'; clear hw')
            go_roundw
            case rel =>
              refine ⟨j - 1, swp dj j (j - 1), by congr 1; omega, by omega, by omega, by rw [size_swp]; exact hsj, SWK.swap HWn.out hk hb1 j (j - 1) (by omega) (by omega), ?_⟩
              rw [← HI.out, insInner_go lt a j dj hja hlv]
            case measure => simp [intOf]; omega
          | false =>
            rw [hlv] at hl
            go_wp2_with (go_at_fn g; refine hl.mono ?_; rintro e w' ⟨rfl, hw'⟩; have HWn : Hid _ := hw'; clear hw')
            go_roundw
            case rel => exact ⟨i + 1, dj, by congr 1, by omega, by omega, hsj, HWn.out, by rw [← HO.out, insOuter_go _ _ _ _ _ hlt, ← HI.out, insInner_stop _ _ _ _ (Or.inr hlv)]⟩
            case measure => simp [intOf]; omega
        · go_wp2
          go_roundw
          case rel => exact ⟨i + 1, dj, by congr 1, by omega, by omega, hsj, HW2.out, by rw [← HO.out, insOuter_go _ _ _ _ _ hlt, ← HI.out, insInner_stop _ _ _ _ (Or.inl (by omega))]⟩
          case measure => simp [intOf]; omega
    · go_wp2
      go_end0
      exact ⟨rfl, by unfold Sort.insertionSort; rw [← HO.out, insOuter_stop _ _ _ _ _ hlt]; exact SWK.comp (SWK.alloc (SWK.start H0.out) _) hblk HW.out hsk⟩

set_option maxHeartbeats 8000000 in
set_option maxRecDepth 100000 in
theorem stable_walk (L : LaysGt.n15 P ρ) (hk : ∀ x, (enc x).length = k) (lt : α → α → Bool) (hS : SWO lt) (g : Nat) (lb : Array Value) (sf : Nat) (sb : Array Value) (d : Array α)
    (eg : ∀ args w, (callFunc g args).run P w = .ok (.enter g args) w) (hless : LessLaysK P g lb enc k lt blk off d.size W) (hswap : SwapSwapsK P sf sb enc k blk off d.size)
    (hH : HoldsK enc k W blk off d) (hblk : blk < W.heap.size) (hsz : d.size < 1152921504606846976) :
    Calls P (ρ.f 15) #[.agg #[.func (.func g) #[] lb, .func (.func sf) #[] sb], .int .i64 d.size] W fun e w' =>
      e = .returned (.tuple #[]) ∧ ∃ d', PermIn 0 d.size d d' ∧ SortedIn lt 0 d.size d' ∧ SWK enc k W blk off d' w' := by
  have mixed := L.mixed; have t0 := L.t0; have a0 := L.a0; have z0 := L.z0; have v0 := L.v0; have t3 := L.t3; have a3 := L.a3; have z3 := L.z3; have v3 := L.v3; have t4 := L.t4; have a4 := L.a4; have z4 := L.z4; have v4 := L.v4; have t26 := L.t26; have a26 := L.a26; have z26 := L.z26; have v26 := L.v26; have t38 := L.t38; have a38 := L.a38; have z38 := L.z38; have v38 := L.v38; have t42 := L.t42; have a42 := L.a42; have z42 := L.z42; have v42 := L.v42; have t47 := L.t47; have a47 := L.a47; have z47 := L.z47; have v47 := L.v47
  have u42 := run_underlying L.t42
  have L29 : LaysGt.n29 P ρ := { L with }
  have L30 : LaysGt.n30 P ρ := { L with }
  have e29 : ∀ args w, (callFunc (ρ.f 29) args).run P w = .ok (.enter (ρ.f 29) args) w := enters_of L.f29 (by kernel_rfl) rfl
  have e30 : ∀ args w, (callFunc (ρ.f 30) args).run P w = .ok (.enter (ρ.f 30) args) w := enters_of L.f30 (by kernel_rfl) rfl
  have hb1 : blk < (W.alloc (.cells #[.func (.func g) #[] lb, .func (.func sf) #[] sb] (ρ.t 42))).heap.size := by rw [alloc_eq_grow, size_grow]; omega
  have hH1 : HoldsK enc k (W.alloc (.cells #[.func (.func g) #[] lb, .func (.func sf) #[] sb] (ρ.t 42))) blk off d := by rw [alloc_eq_grow]; exact holdsK_grow enc k W _ blk off d hblk hH
  have hL1 : LessLaysK P g lb enc k lt blk off d.size (W.alloc (.cells #[.func (.func g) #[] lb, .func (.func sf) #[] sb] (ρ.t 42))) := by rw [alloc_eq_grow]; exact hless.grow hblk _
  have cell0 : ∀ (dj : Array α) (wr : World), SWK enc k (W.alloc (.cells #[.func (.func g) #[] lb, .func (.func sf) #[] sb] (ρ.t 42))) blk off dj wr → wr.cell? ⟨W.heap.size, 0, none⟩ = some (.func (.func g) #[] lb) := fun dj wr h => by
    rw [h.cellAt (b := W.heap.size) (by omega) (by rw [alloc_eq_grow, size_grow]; simp)]; simp
  have cell1 : ∀ (dj : Array α) (wr : World), SWK enc k (W.alloc (.cells #[.func (.func g) #[] lb, .func (.func sf) #[] sb] (ρ.t 42))) blk off dj wr → wr.cell? ⟨W.heap.size, 1, none⟩ = some (.func (.func sf) #[] sb) := fun dj wr h => by
    rw [h.cellAt (b := W.heap.size) (by omega) (by rw [alloc_eq_grow, size_grow]; simp)]; simp
  -- one block sorted
  have ins : ∀ (dj : Array α) (wr : World) (a b : Nat), SWK enc k (W.alloc (.cells #[.func (.func g) #[] lb, .func (.func sf) #[] sb] (ρ.t 42))) blk off dj wr → dj.size = d.size → a ≤ b → b ≤ d.size →
      Calls P (ρ.f 29) #[.agg #[.func (.func g) #[] lb, .func (.func sf) #[] sb], .int .i64 a, .int .i64 b] wr fun e w' => e = .returned (.tuple #[]) ∧ ∃ d', PermIn a b dj d' ∧ SortedIn lt a b d' ∧ SWK enc k (W.alloc (.cells #[.func (.func g) #[] lb, .func (.func sf) #[] sb] (ρ.t 42))) blk off d' w' := fun dj wr a b h hd hab hb => by
    have hi := insertionSort_holds hS dj a b hab (by omega)
    refine (insertion_walk L29 hk lt g lb sf sb a b dj eg (by rw [hd]; exact h.lessLays hL1 hb1 hd) (by rw [hd]; exact hswap) (h.holds hb1 hH1 hd) (h.lt hb1) hab (by omega) (by omega)).mono ?_
    rintro e w' ⟨rfl, hw⟩
    exact ⟨rfl, _, hi.1, hi.2, h.comp hb1 hw hi.1.1⟩
  -- two blocks merged
  have mrg : ∀ (dj : Array α) (wr : World) (a m b : Nat), SWK enc k (W.alloc (.cells #[.func (.func g) #[] lb, .func (.func sf) #[] sb] (ρ.t 42))) blk off dj wr → dj.size = d.size → a < m → m < b → b ≤ d.size → SortedIn lt a m dj → SortedIn lt m b dj →
      Calls P (ρ.f 30) #[.agg #[.func (.func g) #[] lb, .func (.func sf) #[] sb], .int .i64 a, .int .i64 m, .int .i64 b] wr fun e w' => e = .returned (.tuple #[]) ∧ ∃ d', PermIn a b dj d' ∧ SortedIn lt a b d' ∧ SWK enc k (W.alloc (.cells #[.func (.func g) #[] lb, .func (.func sf) #[] sb] (ρ.t 42))) blk off d' w' := fun dj wr a m b h hd ham hmb hb h1 h2 => by
    have hi := symMerge_spec hS (b - a) a m b dj (Nat.le_refl _) ham hmb (by omega) h1 h2
    refine (symMerge_walk L30 hk lt g lb sf sb d eg hL1 hswap hH1 hb1 (by omega) (b - a) a m b dj wr h hd (Nat.le_refl _) ham hmb hb).mono ?_
    rintro e w' ⟨rfl, hw⟩
    exact ⟨rfl, _, hi.1, hi.2, h.comp hb1 hw hi.1.1⟩
  have C0 : Hid _ := cell0
  have C1 : Hid _ := cell1
  have INS : Hid _ := ins
  have MRG : Hid _ := mrg
  have H0 : Hid (HoldsK enc k W blk off d) := hH
  clear cell0 cell1 ins mrg hH hL1 hless hswap
  go_enter L.f15, BodyGt.n15_ntmps ρ
  go_wp2
  go_loopw [5, 6] (fun va vb wr => ∃ (a j : Nat) (dj : Array α), va = .int .i64 a ∧ vb = .int .i64 ((a : Int) + 20) ∧ a ≤ d.size ∧ a = j * 20 ∧ PermIn 0 d.size d dj ∧ Blk lt 20 0 (j * 20) dj ∧ SWK enc k (W.alloc (.cells #[.func (.func g) #[] lb, .func (.func sf) #[] sb] (ρ.t 42))) blk off dj wr) (fun va _ _ => d.size - (intOf va).toNat)
  case atStart => exact ⟨0, 0, d, rfl, rfl, Nat.zero_le _, rfl, permIn_refl _ _ _, fun t x y h1 h2 h3 => absurd h3 (by omega), SWK.start hH1⟩
  case round =>
    obtain ⟨a, j, dj, rfl, rfl, han, haj, hp, hbk, hwr⟩ := hrel
    have hds := hp.1
    have c0 := C0.out dj wr hwr
    have c1 := C1.out dj wr hwr
    by_cases hlt2 : a + 20 ≤ d.size
    · have hi := INS.out dj wr a (a + 20) hwr hds (by omega) hlt2
      rw [show ((a + 20 : Nat) : Int) = (a : Int) + 20 by omega] at hi
      have HP : Hid _ := hp
      have HB : Hid _ := hbk
      have HJ : Hid _ := haj
      clear hp hbk hwr haj
      go_wp2_with (go_at_fn (ρ.f 29); refine hi.mono ?_; rintro e w' ⟨rfl, d', hp', hs', hw'⟩)
      go_roundw
      case rel =>
        have haj := HJ.out
        have haj' : a + 20 = (j + 1) * 20 := by omega
        refine ⟨a + 20, j + 1, d', by congr 1, by congr 1, hlt2, haj', perm_up' HP.out hp' hlt2 (Nat.le_refl _), ?_, hw'⟩
        rw [← haj']
        rw [haj] at hp' hs' ⊢
        exact Blk.one HB.out hp' hs' (by omega) (by omega)
      case measure => simp [intOf]; omega
    · have hltz : ¬ ((a : Int) + 20 ≤ (d.size : Int)) := by omega
      have hi := INS.out dj wr a d.size hwr hds han (Nat.le_refl _)
      have HP : Hid _ := hp
      have HB : Hid _ := hbk
      have HJ : Hid _ := haj
      clear hp hbk hwr haj
      go_wp2_with (go_at_fn (ρ.f 29); refine hi.mono ?_; rintro e w' ⟨rfl, d1, hp', hs', hw'⟩)
      have hp1 : PermIn 0 d.size d d1 := perm_up' HP.out hp' (Nat.le_refl _) (Nat.le_refl _)
      have hB1 : Blk lt 20 0 d.size d1 := by
        have haj := HJ.out
        rw [haj] at hp' hs'
        exact Blk.one HB.out hp' hs' (by omega) (by omega)
      have HP1 : Hid _ := hp1
      have HB1 : Hid _ := hB1
      have HW1 : Hid (SWK enc k (W.alloc (.cells #[.func (.func g) #[] lb, .func (.func sf) #[] sb] (ρ.t 42))) blk off d1 w') := hw'
      clear hp1 hB1 hw' hp' hs' HP HB HJ hds c0 c1 hi
      go_loopw [4] (fun vb wr => ∃ (bs : Nat) (dj : Array α), vb = .int .i64 bs ∧ 20 ≤ bs ∧ bs ≤ 2 * d.size + 40 ∧ PermIn 0 d.size d dj ∧ Blk lt bs 0 d.size dj ∧ SWK enc k (W.alloc (.cells #[.func (.func g) #[] lb, .func (.func sf) #[] sb] (ρ.t 42))) blk off dj wr) (fun vb _ => d.size - (intOf vb).toNat)
      case atStart => exact ⟨20, d1, rfl, Nat.le_refl _, by omega, HP1.out, HB1.out, HW1.out⟩
      case round =>
        obtain ⟨bs, dj, rfl, hbs, hbs2, hp, hbk, hwr⟩ := hrel
        have HP : Hid _ := hp
        have HB : Hid (Blk lt bs 0 d.size dj) := hbk
        have HW : Hid (SWK enc k (W.alloc (.cells #[.func (.func g) #[] lb, .func (.func sf) #[] sb] (ρ.t 42))) blk off dj wr) := hwr
        clear hp hbk hwr
        by_cases hlt3 : bs < d.size
        · go_wp2
          go_loopw [5, 6] (fun va vb wr => ∃ (a j : Nat) (dk : Array α), va = .int .i64 a ∧ vb = .int .i64 ((a : Int) + 2 * (bs : Int)) ∧ a ≤ d.size ∧ a = j * (2 * bs) ∧ PermIn 0 d.size d dk ∧ Blk lt (2 * bs) 0 (j * (2 * bs)) dk ∧ Blk lt bs a d.size dk ∧ SWK enc k (W.alloc (.cells #[.func (.func g) #[] lb, .func (.func sf) #[] sb] (ρ.t 42))) blk off dk wr) (fun va _ _ => d.size - (intOf va).toNat)
          case atStart => exact ⟨0, 0, dj, rfl, by congr 1; omega, Nat.zero_le _, by omega, HP.out, fun t x y h1 h2 h3 => absurd h3 (by omega), HB.out, HW.out⟩
          case round =>
            obtain ⟨a, j, dk, rfl, rfl, han, haj, hp, hdone, hrest, hwr⟩ := hrel
            have hds := hp.1
            have c0 := C0.out dk wr hwr
            have c1 := C1.out dk wr hwr
            have r0 := hrest 0
            have r1 := hrest 1
            rw [show a + 0 * bs = a by omega] at r0
            rw [show a + 1 * bs = a + bs by omega] at r1
            have HP2 : Hid _ := hp
            have HD : Hid (Blk lt (2 * bs) 0 (j * (2 * bs)) dk) := hdone
            have HR : Hid (Blk lt bs a d.size dk) := hrest
            have HJ : Hid _ := haj
            by_cases hin : a + 2 * bs ≤ d.size
            · rw [show min (a + bs) d.size = a + bs by omega] at r0
              rw [show min (a + bs + bs) d.size = a + 2 * bs by omega] at r1
              have hm := MRG.out dk wr a (a + bs) (a + 2 * bs) hwr hds (by omega) (by omega) hin r0 r1
              rw [show ((a + 2 * bs : Nat) : Int) = (a : Int) + 2 * (bs : Int) by omega, show ((a + bs : Nat) : Int) = (a : Int) + (bs : Int) by omega] at hm
              have hinz : (a : Int) + 2 * (bs : Int) ≤ (d.size : Int) := by omega
              clear hp hdone hrest hwr haj r0 r1
              go_wp2_with (go_at_fn (ρ.f 30); refine hm.mono ?_; rintro e w' ⟨rfl, d', hp', hs', hw'⟩)
              go_roundw
              case rel =>
                have haj := HJ.out
                have haj' : a + 2 * bs = (j + 1) * (2 * bs) := by rw [Nat.add_mul, Nat.one_mul, ← haj]
                refine ⟨a + 2 * bs, j + 1, d', by congr 1, by congr 1, hin, haj', perm_up' HP2.out hp' hin (Nat.le_refl _), ?_, HR.out.next hp' rfl, hw'⟩
                rw [← haj']
                rw [haj] at hp' hs' ⊢
                exact Blk.one HD.out hp' hs' (by omega) (by omega)
              case measure => simp [intOf]; omega
            · have hinz : ¬ ((a : Int) + 2 * (bs : Int) ≤ (d.size : Int)) := by omega
              by_cases hmn : a + bs < d.size
              · have hmz : (a : Int) + (bs : Int) < (d.size : Int) := by omega
                rw [show min (a + bs) d.size = a + bs by omega] at r0
                rw [show min (a + bs + bs) d.size = d.size by omega] at r1
                have hm := MRG.out dk wr a (a + bs) d.size hwr hds (by omega) hmn (Nat.le_refl _) r0 r1
                rw [show ((a + bs : Nat) : Int) = (a : Int) + (bs : Int) by omega] at hm
                clear hp hdone hrest hwr haj r0 r1
                go_wp2_with (go_at_fn (ρ.f 30); refine hm.mono ?_; rintro e w' ⟨rfl, d', hp', hs', hw'⟩)
                go_roundw
                case rel =>
                  have haj := HJ.out
                  refine ⟨2 * bs, d', by congr 1; omega, by omega, by omega, perm_up' HP2.out hp' (Nat.le_refl _) (Nat.le_refl _), ?_, hw'⟩
                  rw [haj] at hp' hs'
                  exact Blk.one HD.out hp' hs' (by omega) (by omega)
                case measure => simp [intOf]; omega
              · have hmz : ¬ ((a : Int) + (bs : Int) < (d.size : Int)) := by omega
                rw [show min (a + bs) d.size = d.size by omega] at r0
                have R0 : Hid _ := r0
                have HW2 : Hid (SWK enc k (W.alloc (.cells #[.func (.func g) #[] lb, .func (.func sf) #[] sb] (ρ.t 42))) blk off dk wr) := hwr
                clear hp hdone hrest hwr haj r0 r1
                go_wp2
                go_roundw
                case rel =>
                  have haj := HJ.out
                  refine ⟨2 * bs, dk, by congr 1; omega, by omega, by omega, HP2.out, ?_, HW2.out⟩
                  have r0 := R0.out
                  rw [haj] at r0
                  exact Blk.one HD.out (permIn_refl _ _ _) r0 (by omega) (by omega)
                case measure => simp [intOf]; omega
        · have hlz : ¬ ((bs : Int) < (d.size : Int)) := by omega
          go_wp2
          go_end0
          have hb := HB.out 0
          rw [show 0 + 0 * bs = 0 by omega, show min (0 + bs) d.size = d.size by omega] at hb
          exact ⟨rfl, dj, HP.out, hb, SWK.comp (SWK.alloc (SWK.start H0.out) _) hblk HW.out HP.out.1⟩
end Go.Proofs
