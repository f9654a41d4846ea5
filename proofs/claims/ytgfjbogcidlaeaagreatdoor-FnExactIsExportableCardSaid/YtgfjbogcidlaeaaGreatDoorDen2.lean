import Derived.Test.YtgfjbogcidlaeaaGreatDoorDen1
/- The functions compute their models, by gen.py. -/
namespace Go.Proofs.YtgfjbogcidlaeaaGreatDoor
noncomputable section
open Go.Abs Go.Proofs
set_option maxRecDepth 100000
theorem iIsValidValue_den (n : Int) (step : Int) (text : Str) (columns : List Str) (rows : List GRow) : denF kk129.1 [] Tryz.f107 iIsValidValueFS.ps iIsValidValueFS.rs iIsValidValueFS.ex (⟨5, n, step, text, [], columns, rows⟩ : GVal) = iIsValidValueP ⟨5, n, step, text, [], columns, rows⟩ := by kernel_rfl
theorem iIsValidValue_sound : Sound Tryz.prog iIsValidValueFS :=
 Sound.weaken (f := fun x => denF kk129.1 [] Tryz.f107 iIsValidValueFS.ps iIsValidValueFS.rs iIsValidValueFS.ex x) (sound_of_den kk129.2 mixed_ok [] (fn := Tryz.f107) (by kernel_rfl) fun x => rfl) fun x y h => by
  obtain ⟨kind, n, step, text, list, columns, rows⟩ := x
  cases hk : ((kind == 5) && list.isEmpty) with
  | false =>
   have h : (bif ((kind == 5) && list.isEmpty) then iIsValidValueP ⟨kind, n, step, text, list, columns, rows⟩ else none) = some y := h
   rw [hk] at h; cases h
  | true =>
   have h : (bif ((kind == 5) && list.isEmpty) then iIsValidValueP ⟨kind, n, step, text, list, columns, rows⟩ else none) = some y := h
   rw [hk] at h
   simp only [Bool.and_eq_true, beq_iff_eq, List.isEmpty_iff] at hk
   obtain ⟨h_kind, h_list⟩ := hk
   subst kind list
   exact (iIsValidValue_den n step text columns rows).trans h
def kk130 := kk129.f iIsValidValue_sound
def kk131 := kk130.f (s := iParseDataFS) (snd kk130 [(4, .c 48 [.b 2 0 roI, .b 2 1 roI, .b 2 2 roI, .b 2 3 roS, .b 2 4 (owE .val 0), .b 2 5 (owE .str 1), .b 2 6 (owE .row 3), .b 5 0 roI, .b 5 1 roI, .b 5 2 roI, .b 5 3 roS, .b 5 4 (owE .val 4), .b 5 5 (owE .str 6), .b 5 6 (owE .row 7), .t 18 (roL .str), .t 19 roI, .t 20 roI] [(2, 7), (5, 7)] [(2, 2, 0), (5, 5, 0)])] Tryz.f71)
def kk132 := kk131.f (s := iDataErrorFS) (snd kk131 [(9, .c 50 [.t 6 (owE .str 0), .t 27 (roL .str), .t 28 roI, .t 29 roI] [] [])] Tryz.f72)
def kk133 := kk132.f (s := iCopyRowFS) (snd kk132 [] Tryz.f159)
theorem iCopyValueG_sound : ∀ n, Sound Tryz.prog (iCopyValueFSN n) /\ Sound Tryz.prog (iCopyValuesFSN n)
 | 0 => ⟨(fun w S args x y h => by cases h), (fun w S args x y h => by cases h)⟩
 | n + 1 =>
  have ih := iCopyValueG_sound n
  ⟨snd (s := iCopyValueFSN (n + 1)) ((kk133.f ih.1).f ih.2) [(6, .c 33 [.b 2 0 roI, .b 2 1 roI, .b 2 2 roI, .b 2 3 roS, .b 2 4 (owE .val 0), .b 2 5 (owE .str 4), .b 2 6 (owE .row 6), .b 3 0 roI, .b 3 1 roI, .b 3 2 roI, .b 3 3 roS, .b 3 4 (owE .val 7), .b 3 5 (owE .str 8), .b 3 6 (owE .row 10), .t 18 (roL .row), .t 19 roI, .t 20 roI] [(2, 7), (3, 7)] [(2, 2, 0), (3, 3, 0)])] Tryz.f109,
  snd (s := iCopyValuesFSN (n + 1)) ((kk133.f ih.1).f ih.2) [(3, .c 20 [.t 3 (owE .val 0), .t 7 (roL .val), .t 8 roI, .t 9 roI] [] [])] Tryz.f158⟩
theorem iCopyValue_sound : Sound Tryz.prog iCopyValueFS := fun w S args x y h => (iCopyValueG_sound (siz (α := GVal) x + 1)).1 w S args x y h
def kk134 := kk133.f iCopyValue_sound
theorem iCopyValues_sound : Sound Tryz.prog iCopyValuesFS := fun w S args x y h => (iCopyValueG_sound (siz (α := List GVal) x + 1)).2 w S args x y h
def kk135 := kk134.f iCopyValues_sound
def kk136 := kk135.f (s := iSourceTableFS) (snd kk135 [(5, .c 39 [.t 0 roI, .b 4 0 roI, .b 4 1 roI, .b 4 2 roI, .b 4 3 roS, .b 4 4 (owE .val 0), .b 4 5 (owE .str 1), .b 4 6 (owE .row 2), .b 5 0 roI, .b 5 1 roI, .b 5 2 roI, .b 5 3 roS, .b 5 4 (owE .val 6), .b 5 5 (owE .str 7), .b 5 6 (owE .row 8), .t 24 roI, .t 25 roI] [(4, 7), (5, 7)] [(4, 4, 0), (5, 5, 0)])] Tryz.f73)
def kk137 := kk136.f (s := iCompileCellFS) (snd kk136 [] Tryz.f42)
def kk138 := kk137.s (s := iCompileAllFS) (ssd kk137 [(5, .c 24 [.t 3 (.own (.base .part) false true 0), .t 11 (roL .cell), .t 12 roI, .t 13 roI] [] [])] Tryz.f22)
def kk139 := kk138.f (s := iDefinersFS) (snd kk138 [(3, .c 31 [.t 1 roS, .t 5 (owE .int 0), .t 9 (roL .part), .t 10 roI, .t 11 roI] [] [])] Tryz.f77)
theorem iSortNames_sound : Sound Tryz.prog iSortNamesFS := snd (kk139.ins [libSortStringsIS] (by intro s hs; simp only [List.mem_singleton] at hs; subst hs; exact ⟨libSortStrings_callable, libSortStrings_isound⟩)) [(3, .c 27 [.t 0 (roL .str), .t 3 (owE .str 0), .t 7 (roL .str), .t 8 roI, .t 9 roI] [] [])] Tryz.f78
def kk140 := kk139.f iSortNames_sound
def kk141 := kk140.f (s := iNamesWithFS) (snd kk140 [(3, .c 36 [.t 0 (roL .part), .t 1 (roE .bool), .t 5 (owE .str 0), .t 9 (roL .part), .t 10 roI, .t 11 roI] [] [])] Tryz.f45)
def kk142 := kk141.f (s := iDuplicateNamesFS) (snd kk141 [] Tryz.f24)
def kk143 := kk142.f (s := iBrokenCellsFS) (snd kk142 [(3, .c 29 [.b 1 0 (roL .cell), .t 3 (owE .int 0), .t 8 (.own (.base .part) false true 2), .t 9 roI, .t 10 roI] [(1, 1)] [(1, 1, 0)])] Tryz.f25)
theorem iHasInt_sound : Sound Tryz.prog iHasIntFS := snd kk143 [(2, .c 17 [.t 1 roI, .t 7 (roL .int), .t 8 roI, .t 9 roI] [] [])] Tryz.f51
def kk144 := kk143.f iHasInt_sound
end
end Go.Proofs.YtgfjbogcidlaeaaGreatDoor
