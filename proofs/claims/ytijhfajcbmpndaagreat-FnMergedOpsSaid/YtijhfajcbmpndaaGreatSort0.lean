/- The library's stable sort in plain Lean: ranges swapped, blocks turned, two sorted blocks merged in place: a permutation, sorted. -/
import Derived.Sort.LotA
set_option linter.unusedSimpArgs false
set_option linter.unusedVariables false
namespace Go.Sort
theorem le_trans' {β : Type} {lt : β → β → Bool} (hS : SWO lt) {x y z : β} (h1 : lt y x = false) (h2 : lt z y = false) : lt z x = false := hS.ntrans z y x h2 h1
variable {α : Type} [Inhabited α]

/-- n places from a on are exchanged with n places from b on -/
def swr : Nat → Nat → Nat → Array α → Array α
  | 0, _, _, d => d
  | n + 1, a, b, d => swr n (a + 1) (b + 1) (swp d a b)
theorem size_swr : ∀ (n a b : Nat) (d : Array α), (swr n a b d).size = d.size
  | 0, _, _, _ => rfl
  | n + 1, a, b, d => by rw [swr, size_swr n, size_swp]
theorem get_swr : ∀ (n a b : Nat) (d : Array α), a + n ≤ b → b + n ≤ d.size → ∀ t, (swr n a b d)[t]! = if a ≤ t ∧ t < a + n then d[b + (t - a)]! else if b ≤ t ∧ t < b + n then d[a + (t - b)]! else d[t]!
  | 0, a, b, d, _, _, t => by rw [swr, if_neg (by omega), if_neg (by omega)]
  | n + 1, a, b, d, h1, h2, t => by
    rw [swr, get_swr n (a + 1) (b + 1) (swp d a b) (by omega) (by rw [size_swp]; omega) t]
    have hs := swp_get d (i := a) (j := b) (by omega) (by omega)
    rw [hs, hs, hs]
    by_cases q1 : a + 1 ≤ t ∧ t < a + 1 + n
    · rw [if_pos q1, if_neg (by omega), if_neg (by omega), if_pos (by omega), show b + 1 + (t - (a + 1)) = b + (t - a) by omega]
    rw [if_neg q1]
    by_cases q2 : b + 1 ≤ t ∧ t < b + 1 + n
    · rw [if_pos q2, if_neg (by omega), if_neg (by omega), if_neg (by omega), if_pos (by omega), show a + 1 + (t - (b + 1)) = a + (t - b) by omega]
    rw [if_neg q2]
    by_cases q3 : t = b
    · rw [if_pos q3, if_neg (by omega), if_pos (by omega), show a + (t - b) = a by omega]
    rw [if_neg q3]
    by_cases q4 : t = a
    · rw [if_pos q4, if_pos (by omega), show b + (t - a) = b by omega]
    rw [if_neg q4, if_neg (by omega), if_neg (by omega)]
theorem perm_swr (lo hi : Nat) : ∀ (n a b : Nat) (d : Array α), lo ≤ a → a + n ≤ b → b + n ≤ hi → hi ≤ d.size → PermIn lo hi d (swr n a b d)
  | 0, _, _, d, _, _, _, _ => permIn_refl d lo hi
  | n + 1, a, b, d, h1, h2, h3, h4 => by
    rw [swr]
    exact permIn_trans _ _ _ lo hi (swp_permIn d lo hi a b h1 (by omega) (by omega) (by omega) h4) (perm_swr lo hi n (a + 1) (b + 1) _ (by omega) (by omega) (by omega) (by rw [size_swp]; exact h4))

/-- d' is d with the i places from x on and the j places behind them exchanged as blocks -/
def RotP (x i j : Nat) (d d' : Array α) : Prop := ∀ t, d'[t]! = if x ≤ t ∧ t < x + j then d[t + i]! else if x + j ≤ t ∧ t < x + j + i then d[t - j]! else d[t]!
/-- rotate_func's loop: i places before m, j places from m on -/
def rot (m : Nat) : Nat → Nat → Nat → Array α → Array α
  | 0, i, _, d => d
  | f + 1, i, j, d => if i = j then swr i (m - i) m d else if i > j then rot m f (i - j) j (swr j (m - i) m d) else rot m f i (j - i) (swr i (m - i) (m + j - i) d)
theorem size_rot (m : Nat) : ∀ (f i j : Nat) (d : Array α), (rot m f i j d).size = d.size
  | 0, _, _, _ => rfl
  | f + 1, i, j, d => by
    unfold rot
    split
    · exact size_swr _ _ _ _
    · split
      · rw [size_rot m f, size_swr]
      · rw [size_rot m f, size_swr]
theorem rot_spec (m : Nat) : ∀ (f i j : Nat) (d : Array α), 0 < i → 0 < j → i + j ≤ f → i ≤ m → m + j ≤ d.size → RotP (m - i) i j d (rot m f i j d)
  | 0, i, j, d, h1, h2, h3, _, _ => absurd h3 (by omega)
  | f + 1, i, j, d, h1, h2, h3, h4, h5 => by
    intro t
    unfold rot
    by_cases q : i = j
    · rw [if_pos q, get_swr i (m - i) m d (by omega) (by omega) t]
      by_cases c1 : m - i ≤ t ∧ t < m - i + i
      · rw [if_pos c1, if_pos (by omega), show m + (t - (m - i)) = t + i by omega]
      rw [if_neg c1, if_neg (show ¬ (m - i ≤ t ∧ t < m - i + j) by omega)]
      by_cases c2 : m ≤ t ∧ t < m + i
      · rw [if_pos c2, if_pos (by omega), show m - i + (t - m) = t - j by omega]
      rw [if_neg c2, if_neg (by omega)]
    rw [if_neg q]
    by_cases q2 : i > j
    · rw [if_pos q2]
      have hg := get_swr j (m - i) m d (by omega) (by omega)
      rw [rot_spec m f (i - j) j (swr j (m - i) m d) (by omega) h2 (by omega) (by omega) (by rw [size_swr]; omega) t, hg, hg, hg]
      by_cases c0 : m - i ≤ t ∧ t < m - i + j
      · rw [if_neg (by omega), if_neg (by omega), if_pos c0, if_pos c0, show m + (t - (m - i)) = t + i by omega]
      rw [if_neg c0]
      by_cases c1 : m - (i - j) ≤ t ∧ t < m - (i - j) + j
      · rw [if_pos c1]
        by_cases c2 : m ≤ t + (i - j) ∧ t + (i - j) < m + j
        · rw [if_neg (by omega), if_pos c2, if_neg c0, if_pos (by omega), show m - i + (t + (i - j) - m) = t - j by omega]
        · exact absurd (show m ≤ t + (i - j) ∧ t + (i - j) < m + j by omega) c2
      rw [if_neg c1]
      by_cases c3 : m - (i - j) + j ≤ t ∧ t < m - (i - j) + j + (i - j)
      · rw [if_pos c3, if_neg (by omega), if_neg (by omega), if_neg c0, if_pos (by omega)]
      rw [if_neg c3, if_neg c0, if_neg (by omega), if_neg (by omega)]
    · rw [if_neg q2]
      have hg := get_swr i (m - i) (m + j - i) d (by omega) (by omega)
      rw [rot_spec m f i (j - i) (swr i (m - i) (m + j - i) d) h1 (by omega) (by omega) h4 (by rw [size_swr]; omega) t, hg, hg, hg]
      by_cases c1 : m - i ≤ t ∧ t < m - i + (j - i)
      · rw [if_pos c1, if_neg (show ¬ (m - i ≤ t + i ∧ t + i < m - i + i) by omega), if_neg (show ¬ (m + j - i ≤ t + i ∧ t + i < m + j - i + i) by omega), if_pos (show m - i ≤ t ∧ t < m - i + j by omega)]
      rw [if_neg c1]
      by_cases c3 : m - i + (j - i) ≤ t ∧ t < m - i + (j - i) + i
      · rw [if_pos c3, if_pos (show m - i ≤ t - (j - i) ∧ t - (j - i) < m - i + i by omega), if_pos (show m - i ≤ t ∧ t < m - i + j by omega), show m + j - i + (t - (j - i) - (m - i)) = t + i by omega]
      rw [if_neg c3, if_neg (show ¬ (m - i ≤ t ∧ t < m - i + i) by omega), if_neg (show ¬ (m - i ≤ t ∧ t < m - i + j) by omega)]
      by_cases c4 : m + j - i ≤ t ∧ t < m + j - i + i
      · rw [if_pos c4, if_pos (show m - i + j ≤ t ∧ t < m - i + j + i by omega), show m - i + (t - (m + j - i)) = t - j by omega]
      rw [if_neg c4, if_neg (show ¬ (m - i + j ≤ t ∧ t < m - i + j + i) by omega)]
theorem perm_rot (lo hi m : Nat) : ∀ (f i j : Nat) (d : Array α), lo + i ≤ m → m + j ≤ hi → hi ≤ d.size → PermIn lo hi d (rot m f i j d)
  | 0, _, _, d, _, _, _ => permIn_refl d lo hi
  | f + 1, i, j, d, h1, h2, h3 => by
    unfold rot
    by_cases q : i = j
    · rw [if_pos q]; exact perm_swr lo hi _ _ _ d (by omega) (by omega) (by omega) h3
    rw [if_neg q]
    by_cases q2 : i > j
    · rw [if_pos q2]
      exact permIn_trans _ _ _ lo hi (perm_swr lo hi j (m - i) m d (by omega) (by omega) (by omega) h3) (perm_rot lo hi m f _ _ _ (by omega) (by omega) (by rw [size_swr]; exact h3))
    · rw [if_neg q2]
      exact permIn_trans _ _ _ lo hi (perm_swr lo hi i (m - i) (m + j - i) d (by omega) (by omega) (by omega) h3) (perm_rot lo hi m f _ _ _ (by omega) (by omega) (by rw [size_swr]; exact h3))

/-! the binary searches -/
/-- 'for i < j { h := (i + j) / 2; if p(h) { i = h + 1 } else { j = h } }' -/
def bin (p : Nat → Bool) : Nat → Nat → Nat → Nat
  | 0, i, _ => i
  | f + 1, i, j => if i < j then (if p ((i + j) / 2) then bin p f ((i + j) / 2 + 1) j else bin p f i ((i + j) / 2)) else i
theorem bin_spec (p : Nat → Bool) : ∀ (f i j : Nat), i ≤ j → j - i ≤ f → (∀ x y, i ≤ x → x < y → y < j → p y = true → p x = true) →
    i ≤ bin p f i j ∧ bin p f i j ≤ j ∧ (∀ x, i ≤ x → x < bin p f i j → p x = true) ∧ (∀ x, bin p f i j ≤ x → x < j → p x = false)
  | 0, i, j, h, hf, hm => by
    have : i = j := by omega
    subst this
    exact ⟨Nat.le_refl _, Nat.le_refl _, fun x h1 h2 => absurd h2 (by unfold bin; omega), fun x h1 h2 => absurd h2 (by unfold bin at h1; omega)⟩
  | f + 1, i, j, h, hf, hm => by
    unfold bin
    by_cases q : i < j
    · rw [if_pos q]
      cases hp : p ((i + j) / 2) with
      | true =>
        simp only [if_true]
        obtain ⟨a1, a2, a3, a4⟩ := bin_spec p f ((i + j) / 2 + 1) j (by omega) (by omega) fun x y hx hxy hy => hm x y (by omega) hxy hy
        refine ⟨by omega, a2, fun x h1 h2 => ?_, a4⟩
        by_cases q2 : (i + j) / 2 + 1 ≤ x
        · exact a3 x q2 h2
        · by_cases q3 : x = (i + j) / 2
          · rw [q3]; exact hp
          · exact hm x ((i + j) / 2) h1 (by omega) (by omega) hp
      | false =>
        simp only [Bool.false_eq_true, if_false]
        obtain ⟨a1, a2, a3, a4⟩ := bin_spec p f i ((i + j) / 2) (by omega) (by omega) fun x y hx hxy hy => hm x y hx hxy (by omega)
        refine ⟨a1, by omega, a3, fun x h1 h2 => ?_⟩
        by_cases q2 : x < (i + j) / 2
        · exact a4 x h1 q2
        · cases hx : p x with
          | false => rfl
          | true =>
            by_cases q3 : x = (i + j) / 2
            · rw [← q3, hx] at hp; exact hp
            · have := hm ((i + j) / 2) x (by omega) (by omega) h2 hx
              rw [hp] at this; exact absurd this (by simp)
    · rw [if_neg q]
      exact ⟨Nat.le_refl _, h, fun x h1 h2 => absurd h2 (by omega), fun x h1 h2 => absurd h2 (by omega)⟩

/-- one element from a on goes up to the place e, n steps -/
def up : Nat → Nat → Array α → Array α
  | 0, _, d => d
  | n + 1, a, d => up n (a + 1) (swp d a (a + 1))
theorem size_up : ∀ (n a : Nat) (d : Array α), (up n a d).size = d.size
  | 0, _, _ => rfl
  | n + 1, a, d => by rw [up, size_up n, size_swp]
theorem get_up : ∀ (n a : Nat) (d : Array α), a + n < d.size → RotP a 1 n d (up n a d)
  | 0, a, d, h, t => by
    rw [up, if_neg (by omega)]
    by_cases q : a + 0 ≤ t ∧ t < a + 0 + 1
    · rw [if_pos q, Nat.sub_zero]
    · rw [if_neg q]
  | n + 1, a, d, h, t => by
    have hs := swp_get d (i := a) (j := a + 1) (by omega) (by omega)
    rw [up, get_up n (a + 1) (swp d a (a + 1)) (by rw [size_swp]; omega) t, hs, hs, hs]
    by_cases c1 : a + 1 ≤ t ∧ t < a + 1 + n
    · rw [if_pos c1, if_neg (by omega), if_neg (by omega), if_pos (by omega)]
    rw [if_neg c1]
    by_cases c2 : a + 1 + n ≤ t ∧ t < a + 1 + n + 1
    · rw [if_pos c2, if_pos (by omega), if_neg (by omega), if_pos (by omega), show t - (n + 1) = a by omega]
    rw [if_neg c2]
    by_cases c3 : t = a
    · rw [if_neg (by omega), if_pos c3, if_pos (by omega), c3]
    rw [if_neg (by omega), if_neg c3, if_neg (by omega), if_neg (by omega)]
theorem perm_up (lo hi : Nat) : ∀ (n a : Nat) (d : Array α), lo ≤ a → a + n < hi → hi ≤ d.size → PermIn lo hi d (up n a d)
  | 0, _, d, _, _, _ => permIn_refl d lo hi
  | n + 1, a, d, h1, h2, h3 => by
    rw [up]
    exact permIn_trans _ _ _ lo hi (swp_permIn d lo hi a (a + 1) h1 (by omega) (by omega) (by omega) h3) (perm_up lo hi n (a + 1) _ (by omega) (by omega) (by rw [size_swp]; exact h3))
/-- .. and one goes down, n steps from k on -/
def down : Nat → Nat → Array α → Array α
  | 0, _, d => d
  | n + 1, k, d => down n (k - 1) (swp d k (k - 1))
theorem size_down : ∀ (n a : Nat) (d : Array α), (down n a d).size = d.size
  | 0, _, _ => rfl
  | n + 1, a, d => by rw [down, size_down n, size_swp]
theorem get_down : ∀ (n k : Nat) (d : Array α), n ≤ k → k < d.size → RotP (k - n) n 1 d (down n k d)
  | 0, k, d, _, h, t => by
    rw [down]
    by_cases q : k - 0 ≤ t ∧ t < k - 0 + 1
    · rw [if_pos q, Nat.add_zero]
    · rw [if_neg q, if_neg (by omega)]
  | n + 1, k, d, h0, h, t => by
    have hs := swp_get d (i := k) (j := k - 1) (by omega) (by omega)
    rw [down, get_down n (k - 1) (swp d k (k - 1)) (by omega) (by rw [size_swp]; omega) t, hs, hs, hs]
    by_cases c1 : k - 1 - n ≤ t ∧ t < k - 1 - n + 1
    · rw [if_pos c1, if_pos (by omega), if_pos (by omega), show t + (n + 1) = k by omega]
    rw [if_neg c1, if_neg (show ¬ (k - (n + 1) ≤ t ∧ t < k - (n + 1) + 1) by omega)]
    by_cases c2 : k - 1 - n + 1 ≤ t ∧ t < k - 1 - n + 1 + n
    · rw [if_pos c2, if_neg (by omega), if_neg (by omega), if_pos (by omega)]
    rw [if_neg c2]
    by_cases c3 : t = k
    · rw [if_neg (by omega), if_pos c3, if_pos (by omega), c3]
    rw [if_neg (by omega), if_neg c3, if_neg (by omega)]
theorem perm_down (lo hi : Nat) : ∀ (n k : Nat) (d : Array α), lo + n ≤ k → k < hi → hi ≤ d.size → PermIn lo hi d (down n k d)
  | 0, _, d, _, _, _ => permIn_refl d lo hi
  | n + 1, k, d, h1, h2, h3 => by
    rw [down]
    exact permIn_trans _ _ _ lo hi (swp_permIn d lo hi k (k - 1) (by omega) (by omega) (by omega) (by omega) h3) (perm_down lo hi n (k - 1) _ (by omega) (by omega) (by rw [size_swp]; exact h3))

/-! the merge -/
section
variable (lt : α → α → Bool)
/-- where symMerge_func cuts the first block -/
def cutAt (a m b : Nat) (d : Array α) : Nat :=
  let n := (a + b) / 2 + m
  bin (fun c => !lt d[n - 1 - c]! d[c]!) (b + 1) (if m > (a + b) / 2 then n - b else a) (if m > (a + b) / 2 then (a + b) / 2 else m)
def turned (s m e : Nat) (d : Array α) : Array α := if s < m ∧ m < e then rot m (e - s) (m - s) (e - m) d else d
def symMerge : Nat → Nat → Nat → Nat → Array α → Array α
  | 0, _, _, _, d => d
  | f + 1, a, m, b, d =>
    if m - a = 1 then
      up (bin (fun h => lt d[h]! d[a]!) (b + 1) m b - 1 - a) a d
    else if b - m = 1 then
      down (m - bin (fun h => !lt d[m]! d[h]!) (b + 1) a m) m d
    else
      let mid := (a + b) / 2
      let s := cutAt lt a m b d
      let e := mid + m - s
      let d1 := turned s m e d
      let d2 := if a < s ∧ s < mid then symMerge f a s mid d1 else d1
      if mid < e ∧ e < b then symMerge f mid e b d2 else d2
variable {lt}
theorem le_at (hS : SWO lt) {a b : Nat} {d : Array α} (h : SortedIn lt a b d) {i j : Nat} (h1 : a ≤ i) (h2 : i ≤ j) (h3 : j < b) : lt d[j]! d[i]! = false := by
  by_cases q : i = j
  · rw [q]; exact hS.irrefl _
  · exact h i j h1 (by omega) h3
theorem glue {a mid b : Nat} {d : Array α} (h1 : SortedIn lt a mid d) (h2 : SortedIn lt mid b d) (hx : ∀ i j, a ≤ i → i < mid → mid ≤ j → j < b → lt d[j]! d[i]! = false) : SortedIn lt a b d := fun i j hi hij hj => by
  by_cases q1 : j < mid
  · exact h1 i j hi hij q1
  by_cases q2 : mid ≤ i
  · exact h2 i j q2 hij hj
  · exact hx i j hi (by omega) (by omega) hj
theorem rotP_nil_l (x j : Nat) (d : Array α) : RotP x 0 j d d := fun t => by
  by_cases q : x ≤ t ∧ t < x + j
  · rw [if_pos q, Nat.add_zero]
  · rw [if_neg q, if_neg (by omega)]
theorem rotP_nil_r (x i : Nat) (d : Array α) : RotP x i 0 d d := fun t => by
  rw [if_neg (by omega)]
  by_cases q : x + 0 ≤ t ∧ t < x + 0 + i
  · rw [if_pos q, Nat.sub_zero]
  · rw [if_neg q]
theorem turned_spec {s m e : Nat} {d : Array α} (h1 : s ≤ m) (h2 : m ≤ e) (h3 : e ≤ d.size) : RotP s (m - s) (e - m) d (turned s m e d) := by
  unfold turned
  by_cases q : s < m ∧ m < e
  · rw [if_pos q]
    have := rot_spec m (e - s) (m - s) (e - m) d (by omega) (by omega) (by omega) (by omega) (by omega)
    rw [show m - (m - s) = s by omega] at this
    exact this
  · rw [if_neg q]
    by_cases q2 : s = m
    · rw [show m - s = 0 by omega]; exact rotP_nil_l s _ d
    · rw [show e - m = 0 by omega]; exact rotP_nil_r s _ d
theorem turned_perm {lo hi s m e : Nat} {d : Array α} (h0 : lo ≤ s) (h1 : s ≤ m) (h2 : m ≤ e) (h3 : e ≤ hi) (h4 : hi ≤ d.size) : PermIn lo hi d (turned s m e d) := by
  unfold turned
  by_cases q : s < m ∧ m < e
  · rw [if_pos q]
    exact perm_rot lo hi m _ _ _ d (by omega) (by omega) h4
  · rw [if_neg q]; exact permIn_refl d lo hi
/-- the cut: where it lies, and what holds about it -/
theorem cut_spec (hS : SWO lt) {a m b : Nat} {d : Array α} (ham : a < m) (hmb : m < b) (h1 : SortedIn lt a m d) (h2 : SortedIn lt m b d) :
    let mid := (a + b) / 2
    let s := cutAt lt a m b d
    let e := mid + m - s
    a ≤ s ∧ s ≤ m ∧ m ≤ e ∧ e ≤ b ∧ s ≤ mid ∧ mid ≤ e ∧ s + e = mid + m ∧
      (∀ i j, a ≤ i → i < s → e ≤ j → j < b → lt d[j]! d[i]! = false) ∧ (∀ i j, s ≤ i → i < m → m ≤ j → j < e → lt d[i]! d[j]! = false) := by
  intro mid s e
  have hmid : mid = (a + b) / 2 := rfl
  by_cases q : m > mid
  · have hs : s = bin (fun c => !lt d[mid + m - 1 - c]! d[c]!) (b + 1) (mid + m - b) mid := by
      show cutAt lt a m b d = _
      unfold cutAt
      simp only [← hmid, if_pos q]
    obtain ⟨c1, c2, c3, c4⟩ := bin_spec (fun c => !lt d[mid + m - 1 - c]! d[c]!) (b + 1) (mid + m - b) mid (by omega) (by omega) fun x y hx hxy hy hp => by
      have hp : lt d[mid + m - 1 - y]! d[y]! = false := by simpa using hp
      have e1 := le_at hS h1 (i := x) (j := y) (by omega) (by omega) (by omega)
      have e2 := le_at hS h2 (i := mid + m - 1 - y) (j := mid + m - 1 - x) (by omega) (by omega) (by omega)
      have := le_trans' hS (le_trans' hS e1 hp) e2
      simpa using this
    rw [← hs] at c1 c2 c3 c4
    have he : e = mid + m - s := rfl
    refine ⟨by omega, by omega, by omega, by omega, by omega, by omega, by omega, fun i j i1 i2 j1 j2 => ?_, fun i j i1 i2 j1 j2 => ?_⟩
    · have := c3 (s - 1) (by omega) (by omega)
      have hc : lt d[mid + m - 1 - (s - 1)]! d[s - 1]! = false := by simpa using this
      rw [show mid + m - 1 - (s - 1) = e by omega] at hc
      exact le_trans' hS (le_trans' hS (le_at hS h1 (i := i) (j := s - 1) i1 (by omega) (by omega)) hc) (le_at hS h2 (i := e) (j := j) (by omega) j1 j2)
    · have := c4 s (Nat.le_refl _) (by omega)
      have hc : lt d[mid + m - 1 - s]! d[s]! = true := by simpa using this
      rw [show mid + m - 1 - s = e - 1 by omega] at hc
      exact le_trans' hS (le_trans' hS (le_at hS h2 (i := j) (j := e - 1) j1 (by omega) (by omega)) (hS.asymmA hc)) (le_at hS h1 (i := s) (j := i) (by omega) i1 i2)
  · have hs : s = bin (fun c => !lt d[mid + m - 1 - c]! d[c]!) (b + 1) a m := by
      show cutAt lt a m b d = _
      unfold cutAt
      simp only [← hmid, if_neg q]
    obtain ⟨c1, c2, c3, c4⟩ := bin_spec (fun c => !lt d[mid + m - 1 - c]! d[c]!) (b + 1) a m (by omega) (by omega) fun x y hx hxy hy hp => by
      have hp : lt d[mid + m - 1 - y]! d[y]! = false := by simpa using hp
      have e1 := le_at hS h1 (i := x) (j := y) (by omega) (by omega) (by omega)
      have e2 := le_at hS h2 (i := mid + m - 1 - y) (j := mid + m - 1 - x) (by omega) (by omega) (by omega)
      have := le_trans' hS (le_trans' hS e1 hp) e2
      simpa using this
    rw [← hs] at c1 c2 c3 c4
    have he : e = mid + m - s := rfl
    refine ⟨by omega, by omega, by omega, by omega, by omega, by omega, by omega, fun i j i1 i2 j1 j2 => ?_, fun i j i1 i2 j1 j2 => ?_⟩
    · have := c3 (s - 1) (by omega) (by omega)
      have hc : lt d[mid + m - 1 - (s - 1)]! d[s - 1]! = false := by simpa using this
      rw [show mid + m - 1 - (s - 1) = e by omega] at hc
      exact le_trans' hS (le_trans' hS (le_at hS h1 (i := i) (j := s - 1) i1 (by omega) (by omega)) hc) (le_at hS h2 (i := e) (j := j) (by omega) j1 j2)
    · have := c4 s (Nat.le_refl _) (by omega)
      have hc : lt d[mid + m - 1 - s]! d[s]! = true := by simpa using this
      rw [show mid + m - 1 - s = e - 1 by omega] at hc
      exact le_trans' hS (le_trans' hS (le_at hS h2 (i := j) (j := e - 1) j1 (by omega) (by omega)) (hS.asymmA hc)) (le_at hS h1 (i := s) (j := i) (by omega) i1 i2)
theorem sorted_of_eq {a b : Nat} {d d' : Array α} (h : SortedIn lt a b d) (he : ∀ t, a ≤ t → t < b → d'[t]! = d[t]!) : SortedIn lt a b d' := fun i j h1 h2 h3 => by
  rw [he i h1 (by omega), he j (by omega) h3]; exact h i j h1 h2 h3
theorem symMerge_spec (hS : SWO lt) : ∀ (f a m b : Nat) (d : Array α), b - a ≤ f → a < m → m < b → b ≤ d.size → SortedIn lt a m d → SortedIn lt m b d →
    PermIn a b d (symMerge lt f a m b d) ∧ SortedIn lt a b (symMerge lt f a m b d)
  | 0, a, m, b, d, h, h1, h2, _, _, _ => absurd h (by omega)
  | f + 1, a, m, b, d, hf, ham, hmb, hb, hl, hr => by
    unfold symMerge
    by_cases q1 : m - a = 1
    · rw [if_pos q1]
      obtain ⟨c1, c2, c3, c4⟩ := bin_spec (fun h => lt d[h]! d[a]!) (b + 1) m b (by omega) (by omega) fun x y hx hxy hy hp => by
        cases hq : lt d[x]! d[a]! with
        | true => rfl
        | false =>
          have hp : lt d[y]! d[a]! = true := hp
          rw [hS.ntrans _ _ _ (le_at hS hr (i := x) (j := y) hx (by omega) hy) hq] at hp
          cases hp
      have c3 : ∀ x, m ≤ x → x < bin (fun h => lt d[h]! d[a]!) (b + 1) m b → lt d[x]! d[a]! = true := c3
      have c4 : ∀ x, bin (fun h => lt d[h]! d[a]!) (b + 1) m b ≤ x → x < b → lt d[x]! d[a]! = false := c4
      generalize bin (fun h => lt d[h]! d[a]!) (b + 1) m b = i at c1 c2 c3 c4
      have hg := get_up (i - 1 - a) a d (by omega)
      refine ⟨perm_up a b _ a d (Nat.le_refl _) (by omega) hb, fun x y hx hxy hy => ?_⟩
      rw [hg x, hg y]
      by_cases y1 : y < a + (i - 1 - a)
      · rw [if_pos ⟨by omega, y1⟩, if_pos ⟨by omega, by omega⟩]
        exact hr (x + 1) (y + 1) (by omega) (by omega) (by omega)
      rw [if_neg (show ¬ (a ≤ y ∧ y < a + (i - 1 - a)) by omega)]
      by_cases y2 : y = i - 1
      · rw [if_pos (show a + (i - 1 - a) ≤ y ∧ y < a + (i - 1 - a) + 1 by omega), if_pos (show a ≤ x ∧ x < a + (i - 1 - a) by omega), show y - (i - 1 - a) = a by omega]
        exact hS.asymmA (c3 (x + 1) (by omega) (by omega))
      rw [if_neg (show ¬ (a + (i - 1 - a) ≤ y ∧ y < a + (i - 1 - a) + 1) by omega)]
      by_cases x1 : x < i - 1
      · rw [if_pos (show a ≤ x ∧ x < a + (i - 1 - a) by omega)]
        exact hr (x + 1) y (by omega) (by omega) hy
      rw [if_neg (show ¬ (a ≤ x ∧ x < a + (i - 1 - a)) by omega)]
      by_cases x2 : x = i - 1
      · rw [if_pos (show a + (i - 1 - a) ≤ x ∧ x < a + (i - 1 - a) + 1 by omega), show x - (i - 1 - a) = a by omega]
        exact c4 y (by omega) hy
      rw [if_neg (show ¬ (a + (i - 1 - a) ≤ x ∧ x < a + (i - 1 - a) + 1) by omega)]
      exact hr x y (by omega) hxy hy
    rw [if_neg q1]
    by_cases q2 : b - m = 1
    · rw [if_pos q2]
      obtain ⟨c1, c2, c3, c4⟩ := bin_spec (fun h => !lt d[m]! d[h]!) (b + 1) a m (by omega) (by omega) fun x y hx hxy hy hp => by
        have hp : lt d[m]! d[y]! = false := by simpa using hp
        have := le_trans' hS (le_at hS hl (i := x) (j := y) hx (by omega) hy) hp
        simpa using this
      have c3 : ∀ x, a ≤ x → x < bin (fun h => !lt d[m]! d[h]!) (b + 1) a m → lt d[m]! d[x]! = false := fun x h1 h2 => by simpa using c3 x h1 h2
      have c4 : ∀ x, bin (fun h => !lt d[m]! d[h]!) (b + 1) a m ≤ x → x < m → lt d[m]! d[x]! = true := fun x h1 h2 => by simpa using c4 x h1 h2
      generalize bin (fun h => !lt d[m]! d[h]!) (b + 1) a m = i at c1 c2 c3 c4
      have hg := get_down (m - i) m d (by omega) (by omega)
      rw [show m - (m - i) = i by omega] at hg
      refine ⟨perm_down a b _ m d (by omega) hmb hb, fun x y hx hxy hy => ?_⟩
      rw [hg x, hg y]
      by_cases y1 : y < i
      · rw [if_neg (show ¬ (i ≤ y ∧ y < i + 1) by omega), if_neg (show ¬ (i + 1 ≤ y ∧ y < i + 1 + (m - i)) by omega), if_neg (show ¬ (i ≤ x ∧ x < i + 1) by omega), if_neg (show ¬ (i + 1 ≤ x ∧ x < i + 1 + (m - i)) by omega)]
        exact hl x y hx hxy (by omega)
      by_cases y2 : y = i
      · rw [if_pos (show i ≤ y ∧ y < i + 1 by omega), if_neg (show ¬ (i ≤ x ∧ x < i + 1) by omega), if_neg (show ¬ (i + 1 ≤ x ∧ x < i + 1 + (m - i)) by omega), show y + (m - i) = m by omega]
        exact c3 x hx (by omega)
      rw [if_neg (show ¬ (i ≤ y ∧ y < i + 1) by omega), if_pos (show i + 1 ≤ y ∧ y < i + 1 + (m - i) by omega)]
      by_cases x1 : x < i
      · rw [if_neg (show ¬ (i ≤ x ∧ x < i + 1) by omega), if_neg (show ¬ (i + 1 ≤ x ∧ x < i + 1 + (m - i)) by omega)]
        exact hl x (y - 1) hx (by omega) (by omega)
      by_cases x2 : x = i
      · rw [if_pos (show i ≤ x ∧ x < i + 1 by omega), show x + (m - i) = m by omega]
        exact hS.asymmA (c4 (y - 1) (by omega) (by omega))
      rw [if_neg (show ¬ (i ≤ x ∧ x < i + 1) by omega), if_pos (show i + 1 ≤ x ∧ x < i + 1 + (m - i) by omega)]
      exact hl (x - 1) (y - 1) (by omega) (by omega) (by omega)
    rw [if_neg q2]
    obtain ⟨s1, s2, s3, s4, s5, s6, s7, s8, s9⟩ := cut_spec hS ham hmb hl hr
    have hmid : (a + b) / 2 = (a + b) / 2 := rfl
    simp only
    generalize cutAt lt a m b d = s at s1 s2 s3 s4 s5 s6 s7 s8 s9
    generalize hE : (a + b) / 2 + m - s = e at s3 s4 s6 s7 s8 s9
    have hm1 : 2 * ((a + b) / 2) ≤ a + b ∧ a + b ≤ 2 * ((a + b) / 2) + 1 := by omega
    generalize (a + b) / 2 = mid at *
    have ht := turned_spec (d := d) s2 s3 (by omega)
    have hp1 := turned_perm (lo := a) (hi := b) (d := d) s1 s2 s3 s4 hb
    generalize turned s m e d = d1 at ht hp1
    have hd1 : d1.size = d.size := hp1.1
    have t1 : ∀ t, t < s → d1[t]! = d[t]! := fun t h => by rw [ht t, if_neg (by omega), if_neg (by omega)]
    have t2 : ∀ t, s ≤ t → t < mid → d1[t]! = d[t + (m - s)]! := fun t h h' => by rw [ht t, if_pos (by omega)]
    have t3 : ∀ t, mid ≤ t → t < e → d1[t]! = d[t - (e - m)]! := fun t h h' => by rw [ht t, if_neg (by omega), if_pos (by omega)]
    have t4 : ∀ t, e ≤ t → d1[t]! = d[t]! := fun t h => by rw [ht t, if_neg (by omega), if_neg (by omega)]
    have g1 : SortedIn lt a s d1 := fun i j h1 h2 h3 => by rw [t1 i (by omega), t1 j h3]; exact hl i j h1 h2 (by omega)
    have g2 : SortedIn lt s mid d1 := fun i j h1 h2 h3 => by rw [t2 i h1 (by omega), t2 j (by omega) h3]; exact hr _ _ (by omega) (by omega) (by omega)
    have g3 : SortedIn lt mid e d1 := fun i j h1 h2 h3 => by rw [t3 i h1 (by omega), t3 j (by omega) h3]; exact hl _ _ (by omega) (by omega) (by omega)
    have g4 : SortedIn lt e b d1 := fun i j h1 h2 h3 => by rw [t4 i h1, t4 j (by omega)]; exact hr i j (by omega) h2 h3
    have hx1 : ∀ i j, a ≤ i → i < mid → mid ≤ j → j < b → lt d1[j]! d1[i]! = false := fun i j i1 i2 j1 j2 => by
      by_cases iq : i < s
      · rw [t1 i iq]
        by_cases jq : j < e
        · rw [t3 j j1 jq]; exact hl i _ i1 (by omega) (by omega)
        · rw [t4 j (by omega)]; exact s8 i j i1 iq (by omega) j2
      · rw [t2 i (by omega) i2]
        by_cases jq : j < e
        · rw [t3 j j1 jq]; exact s9 _ _ (by omega) (by omega) (by omega) (by omega)
        · rw [t4 j (by omega)]; exact hr _ j (by omega) (by omega) j2
    -- the left half
    have left : PermIn a mid d1 (if a < s ∧ s < mid then symMerge lt f a s mid d1 else d1) ∧ SortedIn lt a mid (if a < s ∧ s < mid then symMerge lt f a s mid d1 else d1) := by
      by_cases q : a < s ∧ s < mid
      · rw [if_pos q]; exact symMerge_spec hS f a s mid d1 (by omega) q.1 q.2 (by omega) g1 g2
      · rw [if_neg q]
        refine ⟨permIn_refl _ _ _, ?_⟩
        by_cases q3 : s = a
        · rw [← q3]; exact g2
        · have : s = mid := by omega
          rw [← this]; exact g1
    generalize (if a < s ∧ s < mid then symMerge lt f a s mid d1 else d1) = d2 at left
    obtain ⟨p2, so2⟩ := left
    have hd2 : d2.size = d1.size := p2.1
    have k2 : ∀ t, mid ≤ t → d2[t]! = d1[t]! := fun t h => p2.2.1 t (.inr h)
    have right : PermIn mid b d2 (if mid < e ∧ e < b then symMerge lt f mid e b d2 else d2) ∧ SortedIn lt mid b (if mid < e ∧ e < b then symMerge lt f mid e b d2 else d2) := by
      have g3' : SortedIn lt mid e d2 := sorted_of_eq g3 fun t h _ => k2 t h
      have g4' : SortedIn lt e b d2 := sorted_of_eq g4 fun t h _ => k2 t (by omega)
      by_cases q : mid < e ∧ e < b
      · rw [if_pos q]; exact symMerge_spec hS f mid e b d2 (by omega) q.1 q.2 (by omega) g3' g4'
      · rw [if_neg q]
        refine ⟨permIn_refl _ _ _, ?_⟩
        by_cases q3 : e = mid
        · rw [← q3]; exact g4'
        · have : e = b := by omega
          rw [← this]; exact g3'
    generalize (if mid < e ∧ e < b then symMerge lt f mid e b d2 else d2) = d3 at right
    obtain ⟨p3, so3⟩ := right
    have k3 : ∀ t, t < mid → d3[t]! = d2[t]! := fun t h => p3.2.1 t (.inl h)
    refine ⟨permIn_trans _ _ _ a b hp1 (permIn_trans _ _ _ a b (permIn_mono _ _ a mid a b (Nat.le_refl _) (by omega) (by omega) p2) (permIn_mono _ _ mid b a b (by omega) (Nat.le_refl _) (by omega) p3)), ?_⟩
    refine glue (sorted_of_eq so2 fun t _ h => k3 t h) so3 fun i j i1 i2 j1 j2 => ?_
    -- across the middle
    have c1 : ∀ j, mid ≤ j → j < b → ∀ i, a ≤ i → i < mid → lt d2[j]! d2[i]! = false := fun j j1 j2 => by
      rw [k2 j j1]
      exact permIn_all d1 d2 a mid (fun x => lt d1[j]! x = false) (by omega) p2 fun i i1 i2 => hx1 i j i1 i2 j1 j2
    rw [k3 i i2]
    exact permIn_all d2 d3 mid b (fun x => lt x d2[i]! = false) (by omega) p3 (fun j j1 j2 => c1 j j1 j2 i i1 i2) j j1 j2
end
end Go.Sort
