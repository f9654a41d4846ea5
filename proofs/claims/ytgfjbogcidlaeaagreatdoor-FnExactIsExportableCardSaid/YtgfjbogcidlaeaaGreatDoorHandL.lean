import Derived.Test.YtgfjbogcidlaeaaGreatDoorEnvs
import Derived.Test.YtgfjbogcidlaeaaGreatDoorLib1
import Derived.Test.YtgfjbogcidlaeaaGreatDoorLayL
import Derived.Test.YtgfjbogcidlaeaaGreatDoorSetW
/- The library's functions as contracts at this program; the integer of a range with a text. -/
set_option linter.unusedSimpArgs false
set_option linter.unusedVariables false
namespace Go.Proofs.YtgfjbogcidlaeaaGreatDoor
open Go.Abs Go.Proofs Go.Shelf Go.RowKit Go.Lib Go.Sort
theorem libHasPrefix_sound : Sound Tryz.prog libHasPrefixFS := hasPrefix_sound l99
theorem libIndexByte_sound : Sound Tryz.prog libIndexByteFS := indexByte_sound l137
theorem libSplit_max (w : World) (h : amb w) : ∃ m, w.cell? ⟨(l146r.g 1), 0, none⟩ = some (.int .i64 m) := by have e : (Tryz.prog.globalNamed "internal/bytealg.MaxLen").getD 0 = l146r.g 1 := by { kernel_rfl }; have q := h.maxlen; rw [e] at q; exact q
theorem libSplit_sound : Sound Tryz.prog libSplitFS := split_sound l146 (by kernel_rfl) libSplit_max
theorem libSortStrings_callable : callable Tryz.prog libSortStringsIS.fid = true := by kernel_rfl
theorem libSortStrings_isound : ISound Tryz.prog libSortStringsIS := sortStrings_sound l192
theorem below_bytes (w : World) (e : TypeId) (t : ByteArray) : Below w.heap.size w (Go.Lib.bytesWorld w e t) := by
 refine ⟨rfl, rfl, rfl, ?_, fun k hk => ?_⟩
 ·simp [Go.Lib.bytesWorld, World.freeze, World.alloc]
 ·unfold Go.Lib.bytesWorld World.freeze
  show ((w.drew.alloc _).heap.modify w.heap.size _)[k]? = _
  rw [Array.getElem?_modify, if_neg (by omega)]
  exact Below.heap_alloc w.drew _ _ hk
def AtoiEnd (s : Str) (e : Ending) : Prop := match Go.Lib.atoiAll s with
 | .ok v => e = .returned (.tuple #[.int .i64 v, .nilIface])
 | _ => ∃ n t p, e = .returned (.tuple #[.int .i64 n, .iface t p])
theorem atoi_all (s : Str) (hl : s.length <= 34359738368) (w : World) (ha : amb w) :
  Calls Tryz.prog (l172r.f 172) #[.string ⟨s.toArray⟩] w fun e w' => AtoiEnd s e /\ Below w.heap.size w w' := by
 have hsz : (⟨s.toArray⟩ : ByteArray).size = s.length := by show s.toArray.size = _; simp
 have hdl : (⟨s.toArray⟩ : ByteArray).data.toList = s := rfl
 unfold AtoiEnd
 cases h : Go.Lib.atoiAll s with
 | ok v =>
  refine (Any.strconv_Atoi_ok l172 ⟨s.toArray⟩ (by rw [hsz]; omega) v h w).mono ?_
  rintro e w' ⟨rfl, hw | ⟨t, hw⟩⟩
  ·subst hw; exact ⟨rfl, Below.refl _ _⟩
  ·subst hw; exact ⟨rfl, below_bytes _ _ _⟩
 | range =>
  obtain ⟨tp, p, hv⟩ := ha.2.2.2
  refine (Any.strconv_Atoi_range_var l172 ⟨s.toArray⟩ (by rw [hsz]; omega) h tp p w hv).mono ?_
  rintro e w' ⟨N, rfl, _, _, hB⟩
  exact ⟨⟨_, _, _, rfl⟩, hB⟩
 | _ =>
  obtain ⟨tp, p, hv⟩ := ha.2.2.1
  refine (Any.strconv_Atoi_syntax_var l172 ⟨s.toArray⟩ (by rw [hsz]; omega) h tp p w hv).mono ?_
  rintro e w' ⟨N, rfl, _, _, hB⟩
  exact ⟨⟨_, _, _, rfl⟩, hB⟩
theorem atoi_range {s : Str} {v : Int} (h : Go.Lib.atoiAll s = .ok v) : -9223372036854775808 <= v /\ v <= 9223372036854775807 := by
 unfold Go.Lib.atoiAll at h
 split at h
 ·cases h
 ·simp only at h
  split at h
  ·cases h
  ·cases h
  ·split at h
   ·cases h
   ·split at h
    ·cases h
    ·rename_i u _ h1 h2
     cases h
     split <;> omega
def ParseEnd (s : Str) (lo hi : Int) (e : Ending) : Prop := ∃ r, libParse s lo hi = some r /\ e = .returned (.tuple #[.int .i64 r.1, .bool r.2])
theorem parse_yes {s : Str} {lo hi v : Int} (hl : s.length <= 34359738368) (h : Go.Lib.atoiAll s = .ok v) (h1 : lo <= v) (h2 : v <= hi) (h3 : Go.Lib.itoa v = s) : ParseEnd s lo hi (.returned (.tuple #[.int .i64 v, .bool true])) := by
 refine ⟨(v, true), ?_, rfl⟩
 have hgd : gd s.length = some () := by unfold gd; simp [hl]
 unfold libParse
 rw [hgd, h]
 simp only [Option.bind_some]
 rw [if_neg]
 rintro (q | q | q)
 ·omega
 ·omega
 ·exact q h3
theorem parse_no {s : Str} {lo hi : Int} (hl : s.length <= 34359738368) (h : ∀ v, Go.Lib.atoiAll s = .ok v -> v < lo \/ hi < v \/ Go.Lib.itoa v ≠ s) : ParseEnd s lo hi (.returned (.tuple #[.int .i64 0, .bool false])) := by
 refine ⟨(0, false), ?_, rfl⟩
 have hgd : gd s.length = some () := by unfold gd; simp [hl]
 unfold libParse
 rw [hgd]
 simp only [Option.bind_some]
 cases hv : Go.Lib.atoiAll s with
 | ok v => simp only; rw [if_pos (h v hv)]
 | range => rfl
 | _ => rfl
set_option maxHeartbeats 4000000 in
set_option maxRecDepth 100000 in
theorem parse_walk (s : Str) (lo hi : Int) (hl : s.length <= 34359738368) (w : World) (ha : amb w) :
  Calls Tryz.prog 152 #[.string ⟨s.toArray⟩, .int .i64 lo, .int .i64 hi] w fun e w' => ParseEnd s lo hi e /\ Below w.heap.size w w' := by
 have mixed := l172.mixed
 have hat := atoi_all s hl w ha
 have hgd : gd s.length = some () := by unfold gd; simp [hl]
 unfold AtoiEnd at hat
 cases h : Go.Lib.atoiAll s with
 | ok v =>
  rw [h] at hat
  simp only at hat
  go_enter Tryz.func152, Tryz.ntmps152
  go_wp2_with (first | (go_at_call 193; refine hat.mono ?_; rintro e w1 ⟨rfl, hB⟩; have ha1 := amb.keep ha hB.size fun k hk => hB.block k (Nat.lt_of_lt_of_le hk ha.size); have HB : Hid (Below w.heap.size w w1) := hB; clear hB) | (go_at_call 55; refine (Any.strconv_Itoa l171 v (atoi_range h).1 (atoi_range h).2 _ ha1.tab).mono ?_; rintro e w2 ⟨rfl, k, os, rfl⟩))
  all_goals go_ret2
  ·rename_i k os hne
   refine ⟨parse_no hl fun v' hv' => ?_, HB.out.trans ((below_grow w1 k os).mono HB.out.size)⟩
   have e : v' = v := by rw [h] at hv'; cases hv'; rfl
   subst e
   rcases hne with hne | hne
   ·exact hne.elim .inl fun q => .inr (.inl q)
   ·exact .inr (.inr (by simpa using hne))
  ·rename_i k os hne
   exact ⟨parse_yes hl h hne.1.1 hne.1.2 (by simpa using hne.2), HB.out.trans ((below_grow w1 k os).mono HB.out.size)⟩
  ·rename_i hlt
   refine ⟨parse_no hl fun v' hv' => ?_, HB.out⟩
   rw [h] at hv'; cases hv'
   exact .inr (.inl hlt)
  ·rename_i hlt
   refine ⟨parse_no hl fun v' hv' => ?_, HB.out⟩
   rw [h] at hv'; cases hv'
   exact .inl hlt
 | range =>
  rw [h] at hat
  simp only at hat
  go_enter Tryz.func152, Tryz.ntmps152
  go_wp2_with (go_at_call 193; refine hat.mono ?_; rintro e w1 ⟨⟨n, t, p, rfl⟩, hB⟩; have HB : Hid (Below w.heap.size w w1) := hB; clear hB)
  all_goals go_ret2
  exact ⟨parse_no hl fun v' hv' => (by rw [h] at hv'; cases hv'), HB.out⟩
 | _ =>
  rw [h] at hat
  simp only at hat
  go_enter Tryz.func152, Tryz.ntmps152
  go_wp2_with (go_at_call 193; refine hat.mono ?_; rintro e w1 ⟨⟨n, t, p, rfl⟩, hB⟩; have HB : Hid (Below w.heap.size w w1) := hB; clear hB)
  all_goals go_ret2
  exact ⟨parse_no hl fun v' hv' => (by rw [h] at hv'; cases hv'), HB.out⟩
theorem iParse_sound : Sound Tryz.prog iParseFS := by
 intro w S args x y h ha hr hS
 rcases args with _ | ⟨u, _ | ⟨u2, _ | ⟨u3, _ | ⟨u4, r⟩⟩⟩⟩
 ·exact hr.elim
 ·exact hr.2.elim
 ·exact hr.2.2.elim
 ·have hu := rep_str (show Rep w S (.str x.1) u from hr.1.1)
  have hu2 := rep_int (show Rep w S (.int .i64 x.2.1) u2 from hr.2.1.1)
  have hu3 := rep_int (show Rep w S (.int .i64 x.2.2) u3 from hr.2.2.1)
  subst hu; subst hu2; subst hu3
  have h : libParse x.1 x.2.1 x.2.2 = some y := h
  have hl : List.length x.1 <= 34359738368 := by
   unfold libParse at h
   obtain ⟨_, g, _⟩ := Option.bind_eq_some_iff.1 h
   exact gd_some g
  refine (parse_walk x.1 x.2.1 x.2.2 hl w ha).mono ?_
  rintro e w' ⟨⟨r, hr, rfl⟩, hB⟩
  rw [h] at hr
  cases hr
  exact ⟨_, rfl, hB, resOk_intBool _ _⟩
 ·exact hr.2.2.elim
end Go.Proofs.YtgfjbogcidlaeaaGreatDoor
