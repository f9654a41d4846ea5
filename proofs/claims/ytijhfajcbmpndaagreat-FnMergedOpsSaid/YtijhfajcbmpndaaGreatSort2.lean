/- The library's stable sort, walked: two sorted blocks merged in place. -/
import Derived.Test.YtijhfajcbmpndaaGreatSort1
import Derived.Deep.Cut
set_option linter.unusedSimpArgs false
set_option linter.unusedVariables false
namespace Go.Sort
variable {α : Type} [Inhabited α]
theorem bin_bounds (p : Nat → Bool) : ∀ (f i j : Nat), i ≤ j → i ≤ bin p f i j ∧ bin p f i j ≤ j
  | 0, i, j, h => ⟨Nat.le_refl _, h⟩
  | f + 1, i, j, h => by
    unfold bin
    by_cases q : i < j
    · rw [if_pos q]
      cases p ((i + j) / 2) with
      | true =>
        have := bin_bounds p f ((i + j) / 2 + 1) j (by omega)
        simp only [if_true]; omega
      | false =>
        have := bin_bounds p f i ((i + j) / 2) (by omega)
        simp only [Bool.false_eq_true, if_false]; omega
    · rw [if_neg q]; exact ⟨Nat.le_refl _, h⟩
theorem size_symMerge (lt : α → α → Bool) : ∀ (f a m b : Nat) (d : Array α), (symMerge lt f a m b d).size = d.size
  | 0, _, _, _, _ => rfl
  | f + 1, a, m, b, d => by
    have ht : ∀ s e, (turned s m e d).size = d.size := fun s e => by
      unfold turned
      split
      · exact size_rot _ _ _ _ _
      · rfl
    unfold symMerge
    split
    · exact size_up _ _ _
    · split
      · exact size_down _ _ _
      · simp only
        split
        · rw [size_symMerge lt f]
          split
          · rw [size_symMerge lt f]; exact ht _ _
          · exact ht _ _
        · split
          · rw [size_symMerge lt f]; exact ht _ _
          · exact ht _ _
end Go.Sort
namespace Go.Proofs
open Go.Shelf Go.RowKit Go.Lib Go.Sort
variable {P : Program} {ρ : Ren} {α : Type} [Inhabited α] {enc : α → List Value} {k : Nat} {w0 w1 W W' : World} {blk off : Nat} {dk dj : Array α}

set_option maxHeartbeats 8000000 in
set_option maxRecDepth 100000 in
theorem symMerge_big (L : LaysGt.n30 P ρ) (hk : ∀ x, (enc x).length = k) (lt : α → α → Bool) (g : Nat) (lb : Array Value) (sf : Nat) (sb : Array Value) (d : Array α)
    (eg : ∀ args w, (callFunc g args).run P w = .ok (.enter g args) w) (hless : LessLaysK P g lb enc k lt blk off d.size w0) (hswap : SwapSwapsK P sf sb enc k blk off d.size)
    (hH : HoldsK enc k w0 blk off d) (hblk : blk < w0.heap.size) (hsz : d.size < 4611686018427387904) (f : Nat)
    (ih : ∀ (a m b : Nat) (dk : Array α) (W : World), SWK enc k w0 blk off dk W → dk.size = d.size → b - a ≤ f → a < m → m < b → b ≤ d.size →
      Calls P (ρ.f 30) #[.agg #[.func (.func g) #[] lb, .func (.func sf) #[] sb], .int .i64 a, .int .i64 m, .int .i64 b] W fun e w' => e = .returned (.tuple #[]) ∧ SWK enc k W blk off (symMerge lt f a m b dk) w')
    (a m b : Nat) (dk : Array α) (W : World) (hW : SWK enc k w0 blk off dk W) (hs : dk.size = d.size) (hf : b - a ≤ f + 1) (ham : a < m) (hmb : m < b) (hb : b ≤ d.size) (q1 : ¬ m - a = 1) (q2 : ¬ b - m = 1) :
    Calls P (ρ.f 30) #[.agg #[.func (.func g) #[] lb, .func (.func sf) #[] sb], .int .i64 a, .int .i64 m, .int .i64 b] W fun e w' => e = .returned (.tuple #[]) ∧ SWK enc k W blk off (symMerge lt (f + 1) a m b dk) w' := by
  have mixed := L.mixed; have t0 := L.t0; have a0 := L.a0; have z0 := L.z0; have v0 := L.v0; have t3 := L.t3; have a3 := L.a3; have z3 := L.z3; have v3 := L.v3; have t4 := L.t4; have a4 := L.a4; have z4 := L.z4; have v4 := L.v4; have t26 := L.t26; have a26 := L.a26; have z26 := L.z26; have v26 := L.v26; have t38 := L.t38; have a38 := L.a38; have z38 := L.z38; have v38 := L.v38; have t42 := L.t42; have a42 := L.a42; have z42 := L.z42; have v42 := L.v42; have t47 := L.t47; have a47 := L.a47; have z47 := L.z47; have v47 := L.v47
  have u42 := run_underlying L.t42
  have L42 : LaysGt.n42 P ρ := { L with }
  have e42 : ∀ args w, (callFunc (ρ.f 42) args).run P w = .ok (.enter (ρ.f 42) args) w := enters_of L.f42 (by kernel_rfl) rfl
  have e30 : ∀ args w, (callFunc (ρ.f 30) args).run P w = .ok (.enter (ρ.f 30) args) w := enters_of L.f30 (by kernel_rfl) rfl
  have hW1 := hW.alloc (.cells #[.func (.func g) #[] lb, .func (.func sf) #[] sb] (ρ.t 42))
  have hb1 : blk < (W.alloc (.cells #[.func (.func g) #[] lb, .func (.func sf) #[] sb] (ρ.t 42))).heap.size := hW1.lt hblk
  have hlt : blk < W.heap.size := hW.lt hblk
  have hH1 : HoldsK enc k (W.alloc (.cells #[.func (.func g) #[] lb, .func (.func sf) #[] sb] (ρ.t 42))) blk off dk := hW1.holds hblk hH hs
  -- what is known in every world of this call
  have cell0 : ∀ (dj : Array α) (wr : World), SWK enc k (W.alloc (.cells #[.func (.func g) #[] lb, .func (.func sf) #[] sb] (ρ.t 42))) blk off dj wr → wr.cell? ⟨W.heap.size, 0, none⟩ = some (.func (.func g) #[] lb) := fun dj wr h => by
    rw [h.cellAt (b := W.heap.size) (by omega) (by rw [alloc_eq_grow, size_grow]; simp)]; simp
  have cell1 : ∀ (dj : Array α) (wr : World), SWK enc k (W.alloc (.cells #[.func (.func g) #[] lb, .func (.func sf) #[] sb] (ρ.t 42))) blk off dj wr → wr.cell? ⟨W.heap.size, 1, none⟩ = some (.func (.func sf) #[] sb) := fun dj wr h => by
    rw [h.cellAt (b := W.heap.size) (by omega) (by rw [alloc_eq_grow, size_grow]; simp)]; simp
  have above : ∀ (dj : Array α) (wr : World), SWK enc k (W.alloc (.cells #[.func (.func g) #[] lb, .func (.func sf) #[] sb] (ρ.t 42))) blk off dj wr → dj.size = d.size → SWK enc k w0 blk off dj wr := fun dj wr h hd => hW1.comp hblk h (by rw [hd, hs])
  have less : ∀ (dj : Array α) (wr : World) (i j : Nat), SWK enc k (W.alloc (.cells #[.func (.func g) #[] lb, .func (.func sf) #[] sb] (ρ.t 42))) blk off dj wr → dj.size = d.size → i < d.size → j < d.size →
      Calls P g (#[.int .i64 i, .int .i64 j] ++ lb) wr fun e w' => e = .returned (.bool (lt dj[i]! dj[j]!)) ∧ SWK enc k wr blk off dj w' := fun dj wr i j h hd hi hj => (above dj wr h hd).lays hless hd i j hi hj
  have hHW : HoldsK enc k W blk off dk := hW.holds hblk hH hs
  have below : ∀ (dj : Array α) (wr : World), SWK enc k (W.alloc (.cells #[.func (.func g) #[] lb, .func (.func sf) #[] sb] (ρ.t 42))) blk off dj wr → dj.size = d.size → SWK enc k W blk off dj wr := fun dj wr h hd => SWK.comp (SWK.alloc (SWK.start hHW) _) hlt h (by rw [hd, hs])
  have BE : Hid _ := below
  have C0 : Hid _ := cell0
  have C1 : Hid _ := cell1
  have AB : Hid _ := above
  have LE : Hid _ := less
  clear cell0 cell1 above less below
  have q1z : ¬ ((m : Int) - (a : Int) = 1) := by omega
  have q1b : ((m : Int) - (a : Int) == 1) = false := by simpa using q1z
  have q2z : ¬ ((b : Int) - (m : Int) = 1) := by omega
  have q2b : ((b : Int) - (m : Int) == 1) = false := by simpa using q2z
  have hH' : Hid _ := hH
  have hl' : Hid _ := hless
  have IH : Hid _ := ih
  have hmid : ((((a + b) / 2 : Nat)) : Int) = ((a : Int) + (b : Int)) / 2 := by omega
  clear hH hless ih
  go_enter L.f30, BodyGt.n30_ntmps ρ
  go_upto_if 106 with (fail)
  go_cut [18, 19] from 23 (fun v18 v19 w => ∃ lo hi : Nat, v18 = .int .i64 lo ∧ v19 = .int .i64 hi ∧ lo = (if m > (a + b) / 2 then (a + b) / 2 + m - b else a) ∧ hi = (if m > (a + b) / 2 then (a + b) / 2 else m) ∧ SWK enc k (W.alloc (.cells #[.func (.func g) #[] lb, .func (.func sf) #[] sb] (ρ.t 42))) blk off dk w)
  case first =>
    by_cases qm : m > (a + b) / 2
    · have qmz : (m : Int) > ((a : Int) + (b : Int)) / 2 := by omega
      go_wp2
      go_meet
      case rel => exact ⟨(a + b) / 2 + m - b, (a + b) / 2, by congr 1; omega, by congr 1, by rw [if_pos qm], by rw [if_pos qm], SWK.start hH1⟩
    · have qmz : ¬ ((m : Int) > ((a : Int) + (b : Int)) / 2) := by omega
      go_wp2
      go_meet
      case rel => exact ⟨a, m, rfl, rfl, by rw [if_neg qm], by rw [if_neg qm], SWK.start hH1⟩
  case rest =>
    obtain ⟨lo, hi, rfl, rfl, hlo, hhi, hwc⟩ := hcut
    have hr : lo ≤ hi ∧ a ≤ lo ∧ hi ≤ m ∧ (a + b) / 2 + m ≤ lo + b := by
      by_cases qm : m > (a + b) / 2
      · rw [if_pos qm] at hlo hhi; omega
      · rw [if_neg qm] at hlo hhi; omega
    have hcut : cutAt lt a m b dk = bin (fun c => !lt dk[(a + b) / 2 + m - 1 - c]! dk[c]!) (b + 1) lo hi := by
      unfold cutAt; rw [hlo, hhi]
    clear hlo hhi
    obtain ⟨r1, r2, r3, r4⟩ := hr
    have hsb := bin_bounds (fun c => !lt dk[(a + b) / 2 + m - 1 - c]! dk[c]!) (b + 1) lo hi r1
    rw [← hcut] at hsb
    have hS : ∃ st, st = cutAt lt a m b dk := ⟨_, rfl⟩
    obtain ⟨st, hst⟩ := hS
    have HST : Hid (st = cutAt lt a m b dk) := hst
    have hstb : lo ≤ st ∧ st ≤ hi := by rw [hst]; exact hsb
    have HCUT : Hid (cutAt lt a m b dk = bin (fun c => !lt dk[(a + b) / 2 + m - 1 - c]! dk[c]!) (b + 1) lo hi) := hcut
    have HWC : Hid (SWK enc k (W.alloc (.cells #[.func (.func g) #[] lb, .func (.func sf) #[] sb] (ρ.t 42))) blk off dk wc) := hwc
    clear hsb hcut hst hwc
    go_wp2
    go_loopw [18, 19] (fun vi vj wr => ∃ (i j f2 : Nat), vi = .int .i64 i ∧ vj = .int .i64 j ∧ lo ≤ i ∧ i ≤ j ∧ j ≤ hi ∧ j - i ≤ f2 ∧ SWK enc k (W.alloc (.cells #[.func (.func g) #[] lb, .func (.func sf) #[] sb] (ρ.t 42))) blk off dk wr ∧ bin (fun c => !lt dk[(a + b) / 2 + m - 1 - c]! dk[c]!) f2 i j = st) (fun vi vj _ => (intOf vj).toNat - (intOf vi).toNat)
    case atStart => exact ⟨lo, hi, b + 1, rfl, rfl, Nat.le_refl _, r1, Nat.le_refl _, by omega, HWC.out, by rw [HST.out, HCUT.out]⟩
    case round =>
      obtain ⟨i, j, f2, rfl, rfl, hmi, hij, hjb, hf2, hwr, hE⟩ := hrel
      have c0 := C0.out dk wr hwr
      have c1 := C1.out dk wr hwr
      have HWR : Hid (SWK enc k (W.alloc (.cells #[.func (.func g) #[] lb, .func (.func sf) #[] sb] (ρ.t 42))) blk off dk wr) := hwr
      have HE : Hid _ := hE
      clear hE
      by_cases hlt2 : i < j
      · have hl := LE.out dk wr ((a + b) / 2 + m - 1 - (i + j) / 2) ((i + j) / 2) hwr hs (by omega) (by omega)
        rw [show (((a + b) / 2 + m - 1 - (i + j) / 2 : Nat) : Int) = ((a : Int) + (b : Int)) / 2 + (m : Int) - 1 - ((i : Int) + (j : Int)) / 2 by omega, show (((i + j) / 2 : Nat) : Int) = ((i : Int) + (j : Int)) / 2 by omega] at hl
        obtain ⟨f2', rfl⟩ : ∃ f2', f2 = f2' + 1 := ⟨f2 - 1, by omega⟩
        clear hwr
        cases hlv : lt dk[(a + b) / 2 + m - 1 - (i + j) / 2]! dk[(i + j) / 2]! with
        | false =>
          rw [hlv] at hl
          go_wp2_with (go_at_fn g; refine hl.mono ?_; rintro e w' ⟨rfl, hw'⟩)
          go_roundw
          case rel =>
            refine ⟨(i + j) / 2 + 1, j, f2', by congr 1, rfl, by omega, by omega, hjb, by omega, SWK.comp HWR.out hb1 hw' rfl, ?_⟩
            rw [← HE.out]
            conv => rhs; rw [bin]
            rw [if_pos hlt2, hlv]; rfl
          case measure => simp [intOf]; omega
        | true =>
          rw [hlv] at hl
          go_wp2_with (go_at_fn g; refine hl.mono ?_; rintro e w' ⟨rfl, hw'⟩)
          go_roundw
          case rel =>
            refine ⟨i, (i + j) / 2, f2', rfl, by congr 1, hmi, by omega, by omega, by omega, SWK.comp HWR.out hb1 hw' rfl, ?_⟩
            rw [← HE.out]
            conv => rhs; rw [bin]
            rw [if_pos hlt2, hlv]; rfl
          case measure => simp [intOf]; omega
      · have hI : i = st := by
          rw [← HE.out]
          cases f2 with
          | zero => rfl
          | succ f2 => rw [bin, if_neg hlt2]
        subst hI
        have hlz : ¬ ((i : Int) < (j : Int)) := by omega
        have hij' : i = j := by omega
        subst hij'
        clear hwr HWC
        obtain ⟨e, he⟩ : ∃ e, e = (a + b) / 2 + m - i := ⟨_, rfl⟩
        have hez : (e : Int) = ((a : Int) + (b : Int)) / 2 + (m : Int) - (i : Int) := by omega
        have HLT : ∀ (dj : Array α) (w : World), SWK enc k (W.alloc (.cells #[.func (.func g) #[] lb, .func (.func sf) #[] sb] (ρ.t 42))) blk off dj w → blk < w.heap.size := fun dj w h => h.lt hb1
        go_upto_region 40 with (fail)
        go_cut [145] from 138 (fun v w => v = .bool (decide (i < m ∧ m < e)) ∧ SWK enc k (W.alloc (.cells #[.func (.func g) #[] lb, .func (.func sf) #[] sb] (ρ.t 42))) blk off dk w)
        case first =>
          by_cases h1 : i < m
          · have h1z : (i : Int) < (m : Int) := by omega
            by_cases h2 : m < e
            · have h2z : (m : Int) < ((a : Int) + (b : Int)) / 2 + (m : Int) - (i : Int) := by omega
              go_wp2
              go_meet
              case rel => exact ⟨by rw [decide_eq_true (show i < m ∧ m < e from ⟨h1, h2⟩)], HWR.out⟩
            · have h2z : ¬ ((m : Int) < ((a : Int) + (b : Int)) / 2 + (m : Int) - (i : Int)) := by omega
              go_wp2
              go_meet
              case rel => exact ⟨by rw [decide_eq_false (show ¬ (i < m ∧ m < e) from fun h => h2 h.2)], HWR.out⟩
          · have h1z : ¬ ((i : Int) < (m : Int)) := by omega
            go_wp2
            go_meet
            case rel => exact ⟨by rw [decide_eq_false (show ¬ (i < m ∧ m < e) from fun h => h1 h.1)], HWR.out⟩
        case rest =>
          obtain ⟨rfl, hw2⟩ := hcut
          have c0 := C0.out dk wc hw2
          have c1 := C1.out dk wc hw2
          have HW2 : Hid (SWK enc k (W.alloc (.cells #[.func (.func g) #[] lb, .func (.func sf) #[] sb] (ρ.t 42))) blk off dk wc) := hw2
          clear hw2
          go_upto_if 145 with (fail)
          go_cut [] from 23 (fun w => SWK enc k (W.alloc (.cells #[.func (.func g) #[] lb, .func (.func sf) #[] sb] (ρ.t 42))) blk off (turned i m e dk) w)
          case first =>
            by_cases h1 : i < m ∧ m < e
            · have hd : decide (i < m ∧ m < e) = true := decide_eq_true h1
              have hrot := rotate_walk L42 hk (.func (.func g) #[] lb) sf sb i m e dk (by rw [hs]; exact hswap) (SWK.holds HW2.out hb1 hH1 rfl) (HLT _ _ HW2.out) h1.1 h1.2 (by omega) (by omega)
              rw [hez] at hrot
              go_wp2_with (go_at_fn (ρ.f 42); refine hrot.mono ?_; rintro e' w' ⟨rfl, hw'⟩)
              go_meet
              case rel =>
                have : turned i m e dk = rot m (e - i) (m - i) (e - m) dk := by unfold turned; rw [if_pos h1]
                rw [this]
                exact SWK.comp HW2.out hb1 hw' (by rw [size_rot])
            · have hd : decide (i < m ∧ m < e) = false := decide_eq_false h1
              go_wp2
              go_meet
              case rel =>
                have : turned i m e dk = dk := by unfold turned; rw [if_neg h1]
                rw [this]
                exact HW2.out
          case rest =>
            have hw3 : SWK enc k (W.alloc (.cells #[.func (.func g) #[] lb, .func (.func sf) #[] sb] (ρ.t 42))) blk off (turned i m e dk) wc := hcut
            have hs3 : (turned i m e dk).size = d.size := by
              unfold turned
              split
              · rw [size_rot]; exact hs
              · exact hs
            have HTD : Hid (symMerge lt (f + 1) a m b dk = (fun d2 => if (a + b) / 2 < e ∧ e < b then symMerge lt f ((a + b) / 2) e b d2 else d2) (if a < i ∧ i < (a + b) / 2 then symMerge lt f a i ((a + b) / 2) (turned i m e dk) else turned i m e dk)) := by
              show symMerge lt (f + 1) a m b dk = _
              conv => lhs; unfold symMerge
              rw [if_neg q1, if_neg q2, ← HST.out]
              subst he
              rfl
            generalize turned i m e dk = d1 at *
            have c0 := C0.out d1 wc hw3
            have c1 := C1.out d1 wc hw3
            have HW3 : Hid (SWK enc k (W.alloc (.cells #[.func (.func g) #[] lb, .func (.func sf) #[] sb] (ρ.t 42))) blk off d1 wc) := hw3
            clear hw3 hcut HW2 HWR
            go_upto_region 42 with (fail)
            go_cut [158] from 151 (fun v w => v = .bool (decide (a < i ∧ i < (a + b) / 2)) ∧ SWK enc k (W.alloc (.cells #[.func (.func g) #[] lb, .func (.func sf) #[] sb] (ρ.t 42))) blk off d1 w)
            case first =>
              by_cases h1 : a < i
              · have h1z : (a : Int) < (i : Int) := by omega
                by_cases h2 : i < (a + b) / 2
                · have h2z : (i : Int) < ((a : Int) + (b : Int)) / 2 := by omega
                  go_wp2
                  go_meet
                  case rel => exact ⟨by rw [decide_eq_true (show a < i ∧ i < (a + b) / 2 from ⟨h1, h2⟩)], HW3.out⟩
                · have h2z : ¬ ((i : Int) < ((a : Int) + (b : Int)) / 2) := by omega
                  go_wp2
                  go_meet
                  case rel => exact ⟨by rw [decide_eq_false (show ¬ (a < i ∧ i < (a + b) / 2) from fun h => h2 h.2)], HW3.out⟩
              · have h1z : ¬ ((a : Int) < (i : Int)) := by omega
                go_wp2
                go_meet
                case rel => exact ⟨by rw [decide_eq_false (show ¬ (a < i ∧ i < (a + b) / 2) from fun h => h1 h.1)], HW3.out⟩
            case rest =>
              obtain ⟨rfl, hw4⟩ := hcut
              have c0 := C0.out d1 wc hw4
              have c1 := C1.out d1 wc hw4
              have HW4 : Hid (SWK enc k (W.alloc (.cells #[.func (.func g) #[] lb, .func (.func sf) #[] sb] (ρ.t 42))) blk off d1 wc) := hw4
              clear hw4 HW3
              go_upto_if 158 with (fail)
              go_cut [] from 23 (fun w => ∃ d2 : Array α, d2.size = d.size ∧ d2 = (if a < i ∧ i < (a + b) / 2 then symMerge lt f a i ((a + b) / 2) d1 else d1) ∧ SWK enc k (W.alloc (.cells #[.func (.func g) #[] lb, .func (.func sf) #[] sb] (ρ.t 42))) blk off d2 w)
              case first =>
                by_cases h1 : a < i ∧ i < (a + b) / 2
                · have hd : decide (a < i ∧ i < (a + b) / 2) = true := decide_eq_true h1
                  have hrec := IH.out a i ((a + b) / 2) d1 wc (AB.out _ _ HW4.out hs3) hs3 (by omega) h1.1 h1.2 (by omega)
                  rw [hmid] at hrec
                  go_wp2_with (go_at_fn (ρ.f 30); refine hrec.mono ?_; rintro e' w' ⟨rfl, hw'⟩)
                  go_meet
                  case rel => exact ⟨_, (size_symMerge lt f a i ((a + b) / 2) d1).trans hs3, by rw [if_pos h1], SWK.comp HW4.out hb1 hw' (size_symMerge lt f a i ((a + b) / 2) d1)⟩
                · have hd : decide (a < i ∧ i < (a + b) / 2) = false := decide_eq_false h1
                  go_wp2
                  go_meet
                  case rel => exact ⟨d1, hs3, by rw [if_neg h1], HW4.out⟩
              case rest =>
                obtain ⟨d2, hs4, hd2, hw5⟩ := hcut
                have HD2 : Hid _ := hd2
                have c0 := C0.out d2 wc hw5
                have c1 := C1.out d2 wc hw5
                have HW5 : Hid (SWK enc k (W.alloc (.cells #[.func (.func g) #[] lb, .func (.func sf) #[] sb] (ρ.t 42))) blk off d2 wc) := hw5
                clear hw5 hd2 HW4
                have fin : ∀ (w : World) (d3 : Array α), d3.size = d.size → SWK enc k (W.alloc (.cells #[.func (.func g) #[] lb, .func (.func sf) #[] sb] (ρ.t 42))) blk off d3 w → d3 = (if (a + b) / 2 < e ∧ e < b then symMerge lt f ((a + b) / 2) e b d2 else d2) → SWK enc k W blk off (symMerge lt (f + 1) a m b dk) w := fun w d3 h1 h2 h3 => by
                  rw [HTD.out, ← HD2.out]
                  show SWK enc k W blk off (if (a + b) / 2 < e ∧ e < b then symMerge lt f ((a + b) / 2) e b d2 else d2) w
                  rw [← h3]
                  exact BE.out d3 w h2 h1
                have FIN : Hid _ := fin
                clear fin
                by_cases h1 : (a + b) / 2 < e
                · have h1z : ((a : Int) + (b : Int)) / 2 < ((a : Int) + (b : Int)) / 2 + (m : Int) - (i : Int) := by omega
                  by_cases h2 : e < b
                  · have h2z : ((a : Int) + (b : Int)) / 2 + (m : Int) - (i : Int) < (b : Int) := by omega
                    have hrec := IH.out ((a + b) / 2) e b d2 wc (AB.out _ _ HW5.out hs4) hs4 (by omega) h1 h2 hb
                    rw [hmid, hez] at hrec
                    go_wp2_with (go_at_fn (ρ.f 30); refine hrec.mono ?_; rintro e' w' ⟨rfl, hw'⟩)
                    go_end0
                    exact ⟨rfl, FIN.out _ _ ((size_symMerge lt f _ e b d2).trans hs4) (SWK.comp HW5.out hb1 hw' (size_symMerge lt f _ e b d2)) (by rw [if_pos ⟨h1, h2⟩])⟩
                  · have h2z : ¬ (((a : Int) + (b : Int)) / 2 + (m : Int) - (i : Int) < (b : Int)) := by omega
                    go_wp2
                    go_end0
                    exact ⟨rfl, FIN.out _ d2 hs4 HW5.out (by rw [if_neg fun h => h2 h.2])⟩
                · have h1z : ¬ (((a : Int) + (b : Int)) / 2 < ((a : Int) + (b : Int)) / 2 + (m : Int) - (i : Int)) := by omega
                  go_wp2
                  go_end0
                  exact ⟨rfl, FIN.out _ d2 hs4 HW5.out (by rw [if_neg fun h => h1 h.1])⟩

set_option maxHeartbeats 8000000 in
set_option maxRecDepth 100000 in
theorem symMerge_step (L : LaysGt.n30 P ρ) (hk : ∀ x, (enc x).length = k) (lt : α → α → Bool) (g : Nat) (lb : Array Value) (sf : Nat) (sb : Array Value) (d : Array α)
    (eg : ∀ args w, (callFunc g args).run P w = .ok (.enter g args) w) (hless : LessLaysK P g lb enc k lt blk off d.size w0) (hswap : SwapSwapsK P sf sb enc k blk off d.size)
    (hH : HoldsK enc k w0 blk off d) (hblk : blk < w0.heap.size) (hsz : d.size < 4611686018427387904) (f : Nat)
    (ih : ∀ (a m b : Nat) (dk : Array α) (W : World), SWK enc k w0 blk off dk W → dk.size = d.size → b - a ≤ f → a < m → m < b → b ≤ d.size →
      Calls P (ρ.f 30) #[.agg #[.func (.func g) #[] lb, .func (.func sf) #[] sb], .int .i64 a, .int .i64 m, .int .i64 b] W fun e w' => e = .returned (.tuple #[]) ∧ SWK enc k W blk off (symMerge lt f a m b dk) w')
    (a m b : Nat) (dk : Array α) (W : World) (hW : SWK enc k w0 blk off dk W) (hs : dk.size = d.size) (hf : b - a ≤ f + 1) (ham : a < m) (hmb : m < b) (hb : b ≤ d.size) :
    Calls P (ρ.f 30) #[.agg #[.func (.func g) #[] lb, .func (.func sf) #[] sb], .int .i64 a, .int .i64 m, .int .i64 b] W fun e w' => e = .returned (.tuple #[]) ∧ SWK enc k W blk off (symMerge lt (f + 1) a m b dk) w' := by
  have mixed := L.mixed; have t0 := L.t0; have a0 := L.a0; have z0 := L.z0; have v0 := L.v0; have t3 := L.t3; have a3 := L.a3; have z3 := L.z3; have v3 := L.v3; have t4 := L.t4; have a4 := L.a4; have z4 := L.z4; have v4 := L.v4; have t26 := L.t26; have a26 := L.a26; have z26 := L.z26; have v26 := L.v26; have t38 := L.t38; have a38 := L.a38; have z38 := L.z38; have v38 := L.v38; have t42 := L.t42; have a42 := L.a42; have z42 := L.z42; have v42 := L.v42; have t47 := L.t47; have a47 := L.a47; have z47 := L.z47; have v47 := L.v47
  have u42 := run_underlying L.t42
  have L42 : LaysGt.n42 P ρ := { L with }
  have e42 : ∀ args w, (callFunc (ρ.f 42) args).run P w = .ok (.enter (ρ.f 42) args) w := enters_of L.f42 (by kernel_rfl) rfl
  have e30 : ∀ args w, (callFunc (ρ.f 30) args).run P w = .ok (.enter (ρ.f 30) args) w := enters_of L.f30 (by kernel_rfl) rfl
  have hW1 := hW.alloc (.cells #[.func (.func g) #[] lb, .func (.func sf) #[] sb] (ρ.t 42))
  have hb1 : blk < (W.alloc (.cells #[.func (.func g) #[] lb, .func (.func sf) #[] sb] (ρ.t 42))).heap.size := hW1.lt hblk
  have hlt : blk < W.heap.size := hW.lt hblk
  have hH1 : HoldsK enc k (W.alloc (.cells #[.func (.func g) #[] lb, .func (.func sf) #[] sb] (ρ.t 42))) blk off dk := hW1.holds hblk hH hs
  -- what is known in every world of this call
  have cell0 : ∀ (dj : Array α) (wr : World), SWK enc k (W.alloc (.cells #[.func (.func g) #[] lb, .func (.func sf) #[] sb] (ρ.t 42))) blk off dj wr → wr.cell? ⟨W.heap.size, 0, none⟩ = some (.func (.func g) #[] lb) := fun dj wr h => by
    rw [h.cellAt (b := W.heap.size) (by omega) (by rw [alloc_eq_grow, size_grow]; simp)]; simp
  have cell1 : ∀ (dj : Array α) (wr : World), SWK enc k (W.alloc (.cells #[.func (.func g) #[] lb, .func (.func sf) #[] sb] (ρ.t 42))) blk off dj wr → wr.cell? ⟨W.heap.size, 1, none⟩ = some (.func (.func sf) #[] sb) := fun dj wr h => by
    rw [h.cellAt (b := W.heap.size) (by omega) (by rw [alloc_eq_grow, size_grow]; simp)]; simp
  have above : ∀ (dj : Array α) (wr : World), SWK enc k (W.alloc (.cells #[.func (.func g) #[] lb, .func (.func sf) #[] sb] (ρ.t 42))) blk off dj wr → dj.size = d.size → SWK enc k w0 blk off dj wr := fun dj wr h hd => hW1.comp hblk h (by rw [hd, hs])
  have less : ∀ (dj : Array α) (wr : World) (i j : Nat), SWK enc k (W.alloc (.cells #[.func (.func g) #[] lb, .func (.func sf) #[] sb] (ρ.t 42))) blk off dj wr → dj.size = d.size → i < d.size → j < d.size →
      Calls P g (#[.int .i64 i, .int .i64 j] ++ lb) wr fun e w' => e = .returned (.bool (lt dj[i]! dj[j]!)) ∧ SWK enc k wr blk off dj w' := fun dj wr i j h hd hi hj => (above dj wr h hd).lays hless hd i j hi hj
  have hHW : HoldsK enc k W blk off dk := hW.holds hblk hH hs
  have below : ∀ (dj : Array α) (wr : World), SWK enc k (W.alloc (.cells #[.func (.func g) #[] lb, .func (.func sf) #[] sb] (ρ.t 42))) blk off dj wr → dj.size = d.size → SWK enc k W blk off dj wr := fun dj wr h hd => SWK.comp (SWK.alloc (SWK.start hHW) _) hlt h (by rw [hd, hs])
  have BE : Hid _ := below
  have C0 : Hid _ := cell0
  have C1 : Hid _ := cell1
  have AB : Hid _ := above
  have LE : Hid _ := less
  clear cell0 cell1 above less below
  by_cases q1 : m - a = 1
  · have q1z : (m : Int) - (a : Int) = 1 := by omega
    have hH' : Hid _ := hH
    have hl' : Hid _ := hless
    clear hH hless
    go_enter L.f30, BodyGt.n30_ntmps ρ
    go_wp2
    go_loopw [8, 9] (fun vi vj wr => ∃ (i j f2 : Nat), vi = .int .i64 i ∧ vj = .int .i64 j ∧ m ≤ i ∧ i ≤ j ∧ j ≤ b ∧ j - i ≤ f2 ∧ SWK enc k (W.alloc (.cells #[.func (.func g) #[] lb, .func (.func sf) #[] sb] (ρ.t 42))) blk off dk wr ∧ bin (fun h => lt dk[h]! dk[a]!) f2 i j = bin (fun h => lt dk[h]! dk[a]!) (b + 1) m b) (fun vi vj _ => (intOf vj).toNat - (intOf vi).toNat)
    case atStart => exact ⟨m, b, b + 1, rfl, rfl, Nat.le_refl _, by omega, Nat.le_refl _, by omega, SWK.start hH1, rfl⟩
    case round =>
      obtain ⟨i, j, f2, rfl, rfl, hmi, hij, hjb, hf2, hwr, hE⟩ := hrel
      have c0 := C0.out dk wr hwr
      have HWR : Hid (SWK enc k (W.alloc (.cells #[.func (.func g) #[] lb, .func (.func sf) #[] sb] (ρ.t 42))) blk off dk wr) := hwr
      have HE : Hid _ := hE
      clear hE
      by_cases hlt2 : i < j
      · have hl := LE.out dk wr ((i + j) / 2) a hwr hs (by omega) (by omega)
        rw [show (((i + j) / 2 : Nat) : Int) = ((i : Int) + (j : Int)) / 2 by omega] at hl
        obtain ⟨f2', rfl⟩ : ∃ f2', f2 = f2' + 1 := ⟨f2 - 1, by omega⟩
        clear hwr
        cases hlv : lt dk[(i + j) / 2]! dk[a]! with
        | true =>
          rw [hlv] at hl
          go_wp2_with (go_at_fn g; refine hl.mono ?_; rintro e w' ⟨rfl, hw'⟩)
          go_roundw
          case rel =>
            refine ⟨(i + j) / 2 + 1, j, f2', by congr 1, rfl, by omega, by omega, hjb, by omega, SWK.comp HWR.out hb1 hw' rfl, ?_⟩
            rw [← HE.out]
            conv => rhs; rw [bin]
            rw [if_pos hlt2, hlv]; rfl
          case measure => simp [intOf]; omega
        | false =>
          rw [hlv] at hl
          go_wp2_with (go_at_fn g; refine hl.mono ?_; rintro e w' ⟨rfl, hw'⟩)
          go_roundw
          case rel =>
            refine ⟨i, (i + j) / 2, f2', rfl, by congr 1, hmi, by omega, by omega, by omega, SWK.comp HWR.out hb1 hw' rfl, ?_⟩
            rw [← HE.out]
            conv => rhs; rw [bin]
            rw [if_pos hlt2, hlv]; rfl
          case measure => simp [intOf]; omega
      · have hI : bin (fun h => lt dk[h]! dk[a]!) (b + 1) m b = i := by
          rw [← HE.out]
          cases f2 with
          | zero => rfl
          | succ f2 => rw [bin, if_neg hlt2]
        have hlz : ¬ ((i : Int) < (j : Int)) := by omega
        clear hwr
        go_wp2
        go_loopw [11] (fun vx wr2 => ∃ (x : Nat) (dj : Array α), vx = .int .i64 x ∧ a ≤ x ∧ x ≤ i - 1 ∧ dj.size = d.size ∧ SWK enc k (W.alloc (.cells #[.func (.func g) #[] lb, .func (.func sf) #[] sb] (ρ.t 42))) blk off dj wr2 ∧ up (i - 1 - x) x dj = up (i - 1 - a) a dk) (fun vx _ => i - (intOf vx).toNat)
        case atStart => exact ⟨a, dk, rfl, Nat.le_refl _, by omega, hs, HWR.out, rfl⟩
        case round =>
          obtain ⟨x, dj, rfl, hax, hxi, hsj, hwr2, hU⟩ := hrel
          have c1 := C1.out dj wr hwr2
          have HW2 : Hid (SWK enc k (W.alloc (.cells #[.func (.func g) #[] lb, .func (.func sf) #[] sb] (ρ.t 42))) blk off dj wr) := hwr2
          have HU : Hid _ := hU
          have hs2 := fun (x y : Nat) (hx : x < d.size) (hy : y < d.size) => hswap wr dj ((AB.out dj wr hwr2 hsj).holds hblk hH'.out hsj) hsj x y hx hy
          clear hwr2 hU
          by_cases hx1 : x < i - 1
          · have hsw := hs2 x (x + 1) (by omega) (by omega)
            rw [show ((x + 1 : Nat) : Int) = (x : Int) + 1 by omega] at hsw
            clear hs2
            go_wp2
            refine ⟨⟨x + 1, swp dj x (x + 1), by congr 1, by omega, by omega, by rw [size_swp]; exact hsj, SWK.swap HW2.out hk hb1 x (x + 1) (by omega) (by omega), ?_⟩, by simp [intOf]; omega⟩
            rw [← HU.out, show i - 1 - x = (i - 1 - (x + 1)) + 1 by omega]
            rfl
          · have hxz : ¬ ((x : Int) < (i : Int) - 1) := by omega
            clear hs2
            go_wp2
            refine bodyPost_ret (results_none rfl _ _ _) rfl ?_
            refine ⟨rfl, ?_⟩
            have e := HU.out
            rw [show i - 1 - x = 0 by omega] at e
            have e : dj = up (i - 1 - a) a dk := e
            unfold symMerge
            rw [if_pos q1, hI, ← e]
            exact BE.out dj _ HW2.out hsj
  · have q1z : ¬ ((m : Int) - (a : Int) = 1) := by omega
    have q1b : ((m : Int) - (a : Int) == 1) = false := by simpa using q1z
    by_cases q2 : b - m = 1
    · have q2z : (b : Int) - (m : Int) = 1 := by omega
      have hH' : Hid _ := hH
      have hl' : Hid _ := hless
      clear hH hless
      go_enter L.f30, BodyGt.n30_ntmps ρ
      go_wp2
      go_loopw [12, 13] (fun vi vj wr => ∃ (i j f2 : Nat), vi = .int .i64 i ∧ vj = .int .i64 j ∧ a ≤ i ∧ i ≤ j ∧ j ≤ m ∧ j - i ≤ f2 ∧ SWK enc k (W.alloc (.cells #[.func (.func g) #[] lb, .func (.func sf) #[] sb] (ρ.t 42))) blk off dk wr ∧ bin (fun h => !lt dk[m]! dk[h]!) f2 i j = bin (fun h => !lt dk[m]! dk[h]!) (b + 1) a m) (fun vi vj _ => (intOf vj).toNat - (intOf vi).toNat)
      case atStart => exact ⟨a, m, b + 1, rfl, rfl, Nat.le_refl _, by omega, Nat.le_refl _, by omega, SWK.start hH1, rfl⟩
      case round =>
        obtain ⟨i, j, f2, rfl, rfl, hmi, hij, hjb, hf2, hwr, hE⟩ := hrel
        have c0 := C0.out dk wr hwr
        have HWR : Hid (SWK enc k (W.alloc (.cells #[.func (.func g) #[] lb, .func (.func sf) #[] sb] (ρ.t 42))) blk off dk wr) := hwr
        have HE : Hid _ := hE
        clear hE
        by_cases hlt2 : i < j
        · have hl := LE.out dk wr m ((i + j) / 2) hwr hs (by omega) (by omega)
          rw [show (((i + j) / 2 : Nat) : Int) = ((i : Int) + (j : Int)) / 2 by omega] at hl
          obtain ⟨f2', rfl⟩ : ∃ f2', f2 = f2' + 1 := ⟨f2 - 1, by omega⟩
          clear hwr
          cases hlv : lt dk[m]! dk[(i + j) / 2]! with
          | false =>
            rw [hlv] at hl
            go_wp2_with (go_at_fn g; refine hl.mono ?_; rintro e w' ⟨rfl, hw'⟩)
            go_roundw
            case rel =>
              refine ⟨(i + j) / 2 + 1, j, f2', by congr 1, rfl, by omega, by omega, hjb, by omega, SWK.comp HWR.out hb1 hw' rfl, ?_⟩
              rw [← HE.out]
              conv => rhs; rw [bin]
              rw [if_pos hlt2, hlv]; rfl
            case measure => simp [intOf]; omega
          | true =>
            rw [hlv] at hl
            go_wp2_with (go_at_fn g; refine hl.mono ?_; rintro e w' ⟨rfl, hw'⟩)
            go_roundw
            case rel =>
              refine ⟨i, (i + j) / 2, f2', rfl, by congr 1, hmi, by omega, by omega, by omega, SWK.comp HWR.out hb1 hw' rfl, ?_⟩
              rw [← HE.out]
              conv => rhs; rw [bin]
              rw [if_pos hlt2, hlv]; rfl
            case measure => simp [intOf]; omega
        · have hI : bin (fun h => !lt dk[m]! dk[h]!) (b + 1) a m = i := by
            rw [← HE.out]
            cases f2 with
            | zero => rfl
            | succ f2 => rw [bin, if_neg hlt2]
          have hlz : ¬ ((i : Int) < (j : Int)) := by omega
          clear hwr
          go_wp2
          go_loopw [15] (fun vx wr2 => ∃ (x : Nat) (dj : Array α), vx = .int .i64 x ∧ i ≤ x ∧ x ≤ m ∧ dj.size = d.size ∧ SWK enc k (W.alloc (.cells #[.func (.func g) #[] lb, .func (.func sf) #[] sb] (ρ.t 42))) blk off dj wr2 ∧ down (x - i) x dj = down (m - i) m dk) (fun vx _ => (intOf vx).toNat)
          case atStart => exact ⟨m, dk, rfl, by omega, Nat.le_refl _, hs, HWR.out, rfl⟩
          case round =>
            obtain ⟨x, dj, rfl, hax, hxi, hsj, hwr2, hU⟩ := hrel
            have c1 := C1.out dj wr hwr2
            have HW2 : Hid (SWK enc k (W.alloc (.cells #[.func (.func g) #[] lb, .func (.func sf) #[] sb] (ρ.t 42))) blk off dj wr) := hwr2
            have HU : Hid _ := hU
            have hs2 := fun (x y : Nat) (hx : x < d.size) (hy : y < d.size) => hswap wr dj ((AB.out dj wr hwr2 hsj).holds hblk hH'.out hsj) hsj x y hx hy
            clear hwr2 hU
            by_cases hx1 : i < x
            · have hsw := hs2 x (x - 1) (by omega) (by omega)
              rw [show ((x - 1 : Nat) : Int) = (x : Int) - 1 by omega] at hsw
              clear hs2
              go_wp2
              refine ⟨⟨x - 1, swp dj x (x - 1), by congr 1; omega, by omega, by omega, by rw [size_swp]; exact hsj, SWK.swap HW2.out hk hb1 x (x - 1) (by omega) (by omega), ?_⟩, by simp [intOf]; omega⟩
              rw [← HU.out, show x - i = (x - 1 - i) + 1 by omega]
              rfl
            · have hxz : ¬ ((x : Int) > (i : Int)) := by omega
              clear hs2
              go_wp2
              refine bodyPost_ret (results_none rfl _ _ _) rfl ?_
              refine ⟨rfl, ?_⟩
              have e := HU.out
              rw [show x - i = 0 by omega] at e
              have e : dj = down (m - i) m dk := e
              unfold symMerge
              rw [if_neg q1, if_pos q2, hI, ← e]
              exact BE.out dj _ HW2.out hsj
    · exact symMerge_big L hk lt g lb sf sb d eg hless hswap hH hblk hsz f ih a m b dk W hW hs hf ham hmb hb q1 q2

theorem symMerge_walk (L : LaysGt.n30 P ρ) (hk : ∀ x, (enc x).length = k) (lt : α → α → Bool) (g : Nat) (lb : Array Value) (sf : Nat) (sb : Array Value) (d : Array α)
    (eg : ∀ args w, (callFunc g args).run P w = .ok (.enter g args) w) (hless : LessLaysK P g lb enc k lt blk off d.size w0) (hswap : SwapSwapsK P sf sb enc k blk off d.size)
    (hH : HoldsK enc k w0 blk off d) (hblk : blk < w0.heap.size) (hsz : d.size < 4611686018427387904) : ∀ (f a m b : Nat) (dk : Array α) (W : World), SWK enc k w0 blk off dk W → dk.size = d.size → b - a ≤ f → a < m → m < b → b ≤ d.size →
      Calls P (ρ.f 30) #[.agg #[.func (.func g) #[] lb, .func (.func sf) #[] sb], .int .i64 a, .int .i64 m, .int .i64 b] W fun e w' => e = .returned (.tuple #[]) ∧ SWK enc k W blk off (symMerge lt f a m b dk) w' := by
  intro f
  induction f with
  | zero => intro a m b dk W _ _ h1 h2 h3 _; omega
  | succ f ih => exact symMerge_step L hk lt g lb sf sb d eg hless hswap hH hblk hsz f ih
end Go.Proofs
