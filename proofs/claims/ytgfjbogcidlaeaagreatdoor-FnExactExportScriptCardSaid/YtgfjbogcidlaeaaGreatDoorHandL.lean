import Derived.Test.YtgfjbogcidlaeaaGreatDoorEnvs
import Derived.Test.YtgfjbogcidlaeaaGreatDoorLib1
import Derived.Test.YtgfjbogcidlaeaaGreatDoorLayL
import Derived.Test.YtgfjbogcidlaeaaGreatDoorSetW
/- The library's functions as contracts at this program; the integer of a range with a text. -/
set_option linter.unusedSimpArgs false
set_option linter.unusedVariables false
namespace Go.Proofs.YtgfjbogcidlaeaaGreatDoor
open Go.Abs Go.Proofs Go.Shelf Go.RowKit Go.Lib Go.Sort
theorem KZ : Sound Tryz.prog XK := U0 l171 (fun w h => h.tab)
theorem Ac : Sound Tryz.prog Jc := FM l99
theorem Aa : Sound Tryz.prog Jb := Fv l137
theorem Pe (w : World) (h : amb w) : ∃ m, w.cell? ⟨(ZC.g 1), 0, none⟩ = some (.int .i64 m) := by have e : (Tryz.prog.globalNamed "internal/bytealg.MaxLen").getD 0 = ZC.g 1 := by { kernel_rfl }; have q := h.adR; rw [e] at q; exact q
theorem Ja : Sound Tryz.prog UU := Qp l146 (by kernel_rfl) Pe
theorem rO : callable Tryz.prog lK.fid = true := by kernel_rfl
theorem vJ : En Tryz.prog lK := AZ l192
theorem Tz (w : World) (e : TypeId) (t : ByteArray) : Below w.heap.size w (Go.Lib.bytesWorld w e t) := by
 refine ⟨rfl, rfl, rfl, ?_, fun k hk => ?_⟩
 ·simp [Go.Lib.bytesWorld, World.freeze, World.alloc]
 ·unfold Go.Lib.bytesWorld World.freeze
  show ((w.drew.alloc _).heap.modify w.heap.size _)[k]? = _
  rw [Array.getElem?_modify, if_neg (by omega)]
  exact Below.heap_alloc w.drew _ _ hk
def Qg (s : Str) (e : Ending) : Prop := match Go.Lib.atoiAll s with
 | .ok v => e = .returned (.tuple #[.int .i64 v, .nilIface])
 | _ => ∃ n t p, e = .returned (.tuple #[.int .i64 n, .iface t p])
theorem aaE (s : Str) (hl : s.length <= 34359738368) (w : World) (ha : amb w) :
  Calls Tryz.prog (ach.f 172) #[.string ⟨s.toArray⟩] w fun e w' => Qg s e /\ Below w.heap.size w w' := by
 have hsz : (⟨s.toArray⟩ : ByteArray).size = s.length := by show s.toArray.size = _; simp
 have hdl : (⟨s.toArray⟩ : ByteArray).data.toList = s := rfl
 unfold Qg
 cases h : Go.Lib.atoiAll s with
 | ok v =>
  refine (Any.strconv_Atoi_ok abw ⟨s.toArray⟩ (by rw [hsz]; omega) v h w).mono ?_
  rintro e w' ⟨rfl, hw | ⟨t, hw⟩⟩
  ·subst hw; exact ⟨rfl, Below.refl _ _⟩
  ·subst hw; exact ⟨rfl, Tz _ _ _⟩
 | range =>
  obtain ⟨tp, p, hv⟩ := ha.2.2.2
  refine (Any.strconv_Atoi_range_var abw ⟨s.toArray⟩ (by rw [hsz]; omega) h tp p w hv).mono ?_
  rintro e w' ⟨N, rfl, _, _, hB⟩
  exact ⟨⟨_, _, _, rfl⟩, hB⟩
 | _ =>
  obtain ⟨tp, p, hv⟩ := ha.2.2.1
  refine (Any.strconv_Atoi_syntax_var abw ⟨s.toArray⟩ (by rw [hsz]; omega) h tp p w hv).mono ?_
  rintro e w' ⟨N, rfl, _, _, hB⟩
  exact ⟨⟨_, _, _, rfl⟩, hB⟩
theorem J3 {s : Str} {v : Int} (h : Go.Lib.atoiAll s = .ok v) : -9223372036854775808 <= v /\ v <= 9223372036854775807 := by
 unfold Go.Lib.atoiAll at h
 split at h
 ·cases h
 ·simp only at h
  split at h
  ·cases h
  ·cases h
  ·split at h
   ·cases h
   ·split at h
    ·cases h
    ·rename_i u _ h1 h2
     cases h
     split <;> omega
def J8 (s : Str) (lo hi : Int) (e : Ending) : Prop := ∃ r, mY s lo hi = some r /\ e = .returned (.tuple #[.int .i64 r.1, .bool r.2])
theorem XB {s : Str} {lo hi v : Int} (hl : s.length <= 34359738368) (h : Go.Lib.atoiAll s = .ok v) (h1 : lo <= v) (h2 : v <= hi) (h3 : Go.Lib.itoa v = s) : J8 s lo hi (.returned (.tuple #[.int .i64 v, .bool true])) := by
 refine ⟨(v, true), ?_, rfl⟩
 have hgd : gd s.length = some () := by unfold gd; simp [hl]
 unfold mY
 rw [hgd, h]
 simp only [zA]
 rw [if_neg]
 rintro (q | q | q)
 ·omega
 ·omega
 ·exact q h3
theorem wI {s : Str} {lo hi : Int} (hl : s.length <= 34359738368) (h : ∀ v, Go.Lib.atoiAll s = .ok v -> v < lo \/ hi < v \/ Go.Lib.itoa v ≠ s) : J8 s lo hi (.returned (.tuple #[.int .i64 0, .bool false])) := by
 refine ⟨(0, false), ?_, rfl⟩
 have hgd : gd s.length = some () := by unfold gd; simp [hl]
 unfold mY
 rw [hgd]
 simp only [zA]
 cases hv : Go.Lib.atoiAll s with
 | ok v => simp only; rw [if_pos (h v hv)]
 | range => rfl
 | _ => rfl
set_option maxHeartbeats 4000000 in
set_option maxRecDepth 100000 in
theorem UD (s : Str) (lo hi : Int) (hl : s.length <= 34359738368) (w : World) (ha : amb w) :
  Calls Tryz.prog 152 #[.string ⟨s.toArray⟩, .int .i64 lo, .int .i64 hi] w fun e w' => J8 s lo hi e /\ Below w.heap.size w w' := by
 have mixed := abw.mixed
 have hat := aaE s hl w ha
 have hgd : gd s.length = some () := by unfold gd; simp [hl]
 unfold Qg at hat
 cases h : Go.Lib.atoiAll s with
 | ok v =>
  rw [h] at hat
  simp only at hat
  go_enter Tryz.func152, Tryz.ntmps152
  go_wp2_with (first | (go_at_call 193; refine hat.mono ?_; rintro e w1 ⟨rfl, hB⟩; have ha1 := amb.keep ha hB.size fun k hk => hB.block k (Nat.lt_of_lt_of_le hk ha.size); have HB : Hid (Below w.heap.size w w1) := hB; clear hB) | (go_at_call 55; refine (Any.strconv_Itoa l171 v (J3 h).1 (J3 h).2 _ ha1.tab).mono ?_; rintro e w2 ⟨rfl, k, os, rfl⟩))
  all_goals go_ret2
  ·rename_i k os hne
   refine ⟨wI hl fun v' hv' => ?_, HB.out.trans ((below_grow w1 k os).mono HB.out.size)⟩
   have e : v' = v := by rw [h] at hv'; cases hv'; rfl
   subst e
   rcases hne with hne | hne
   ·exact hne.elim .inl fun q => .inr (.inl q)
   ·exact .inr (.inr (by simpa using hne))
  ·rename_i k os hne
   exact ⟨XB hl h hne.1.1 hne.1.2 (by simpa using hne.2), HB.out.trans ((below_grow w1 k os).mono HB.out.size)⟩
  ·rename_i hlt
   refine ⟨wI hl fun v' hv' => ?_, HB.out⟩
   rw [h] at hv'; cases hv'
   exact .inr (.inl hlt)
  ·rename_i hlt
   refine ⟨wI hl fun v' hv' => ?_, HB.out⟩
   rw [h] at hv'; cases hv'
   exact .inl hlt
 | range =>
  rw [h] at hat
  simp only at hat
  go_enter Tryz.func152, Tryz.ntmps152
  go_wp2_with (go_at_call 193; refine hat.mono ?_; rintro e w1 ⟨⟨n, t, p, rfl⟩, hB⟩; have HB : Hid (Below w.heap.size w w1) := hB; clear hB)
  all_goals go_ret2
  exact ⟨wI hl fun v' hv' => (by rw [h] at hv'; cases hv'), HB.out⟩
 | _ =>
  rw [h] at hat
  simp only at hat
  go_enter Tryz.func152, Tryz.ntmps152
  go_wp2_with (go_at_call 193; refine hat.mono ?_; rintro e w1 ⟨⟨n, t, p, rfl⟩, hB⟩; have HB : Hid (Below w.heap.size w w1) := hB; clear hB)
  all_goals go_ret2
  exact ⟨wI hl fun v' hv' => (by rw [h] at hv'; cases hv'), HB.out⟩
theorem Pq : Sound Tryz.prog ZU := by
 intro w S args x y h ha hr hS
 rcases args with _ | ⟨u, _ | ⟨u2, _ | ⟨u3, _ | ⟨u4, r⟩⟩⟩⟩
 ·exact hr.elim
 ·exact hr.2.elim
 ·exact hr.2.2.elim
 ·have hu := nS (show Rep w S (.str x.1) u from hr.1.1)
  have hu2 := lV (show Rep w S (.int .i64 x.2.1) u2 from hr.2.1.1)
  have hu3 := lV (show Rep w S (.int .i64 x.2.2) u3 from hr.2.2.1)
  subst hu; subst hu2; subst hu3
  have h : mY x.1 x.2.1 x.2.2 = some y := h
  have hl : List.length x.1 <= 34359738368 := by
   unfold mY at h
   obtain ⟨_, g, _⟩ := zB.1 h
   exact fM g
  refine (UD x.1 x.2.1 x.2.2 hl w ha).mono ?_
  rintro e w' ⟨⟨r, hr, rfl⟩, hB⟩
  rw [h] at hr
  cases hr
  exact ⟨_, rfl, hB, KO _ _⟩
 ·exact hr.2.2.elim
end Go.Proofs.YtgfjbogcidlaeaaGreatDoor
