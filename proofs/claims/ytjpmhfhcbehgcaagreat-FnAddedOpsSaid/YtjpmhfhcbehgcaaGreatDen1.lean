/- The functions compute their models, by gen.py. -/
import Derived.Test.YtjpmhfhcbehgcaaGreatDen0
namespace Go.Proofs.YtjpmhfhcbehgcaaGreat
open Go.Abs Go.Proofs
set_option maxRecDepth 100000
noncomputable def kk63 := kk62.f (s := sNumberValueFS) (snd kk62 [] Tryz.f63)
noncomputable def kk64 := kk63.b (s := sL16TapeFS) (bnd kk63 [(4, .c 34 [.b 0 0 (roL .u8), .b 0 1 roI, .b 0 2 roI, .t 3 (owE .read 0), .t 4 roI, .t 5 roI] [(0, 3)] [(0, 0, 0)])] Tryz.f52)
noncomputable def kk65 := kk64.b (s := sL41MakeFS) (bnd kk64 [(3, .c 64 [.b 0 0 (roL .u8), .b 0 1 roI, .b 0 2 roI, .t 1 (roL .op), .b 6 0 roI, .b 6 1 roI, .b 6 2 roI, .b 6 3 (owE .int 0), .b 6 4 roI, .b 6 5 roI, .b 6 6 roI, .b 6 7 roI, .b 6 8 roI, .b 6 9 roS, .b 6 10 roS, .b 6 11 roI, .b 6 12 roS, .b 6 13 roS, .b 6 14 roI, .b 6 15 roI, .b 6 16 (owE .read 1), .b 7 0 roI, .b 7 1 roI, .b 7 2 roI, .b 7 3 (owE .int 2), .b 7 4 roI, .b 7 5 roI, .b 7 6 roI, .b 7 7 roI, .b 7 8 roI, .b 7 9 roS, .b 7 10 roS, .b 7 11 roI, .b 7 12 roS, .b 7 13 roS, .b 7 14 roI, .b 7 15 roI, .b 7 16 (owE .read 3), .t 8 roI] [(0, 3), (6, 17), (7, 17)] [(0, 0, 0), (6, 6, 0), (7, 7, 0)])] Tryz.f34)
noncomputable def kk66 := kk65.f (s := sL42PlaceFS) (snd kk65 [(2, .c 31 [.t 0 (roL .op), .b 3 0 roI, .b 3 1 roI, .b 3 2 roI, .b 3 3 (roL .int), .b 3 4 roI, .b 3 5 roI, .b 3 6 roI, .b 3 7 roI, .b 3 8 roI, .b 3 9 roS, .b 3 10 roS, .b 3 11 roI, .b 3 12 roS, .b 3 13 roS, .b 3 14 roI, .b 3 15 roI, .b 3 16 (roL .read), .t 5 roI] [(3, 17)] [(3, 3, 0)])] Tryz.f64)
noncomputable def kk67 := kk66.f (s := sMergeOpsFS) (snd (kk66.cuts [(10, 5, 8, 64, 62)]) [(8, .c 65 [.t 5 (owE .op 0), .t 6 (.own (.base .op) false true 1), .t 7 roI, .t 8 roI] [] []), (4, .c 65 [.t 5 (owE .op 0), .t 6 (.own (.base .op) false true 1), .t 7 roI] [] [])] Tryz.f53)
noncomputable def kk68 := kk67.b (s := sL41LogFS) (bnd kk67 [(4, .c 40 [.b 0 0 (roL .u8), .b 0 1 roI, .b 0 2 roI, .t 5 (owE .op 0), .t 6 roI, .t 7 roI] [(0, 3)] [(0, 0, 0)])] Tryz.f35)
noncomputable def kk69 := kk68.b (s := sL41BentFS) (bnd kk68 [] Tryz.f16)
noncomputable def kk70 := kk69.f (s := sNewReplicaFS) (snd kk69 [] Tryz.f46)
noncomputable def kk71 := kk70.f (s := sPullFS) (snd kk70 [] Tryz.f48)
noncomputable def kk72 := kk71.b (s := sL43NetFS) (bnd kk71 [(9, .c 79 [.b 0 0 (roL .u8), .b 0 1 roI, .b 0 2 roI, .t 5 (owE .replica 0), .t 9 roI, .t 10 roI] [(0, 3)] [(0, 0, 0)]), (3, .c 79 [.b 0 0 (roL .u8), .b 0 1 roI, .b 0 2 roI, .t 1 roI, .t 5 (owE .replica 0), .t 6 roI] [(0, 3)] [(0, 0, 0)])] Tryz.f31)
noncomputable def kk73 := kk72.b (s := sL43BentFS) (bnd kk72.tr [(9, .c 54 [.b 0 0 (roL .u8), .b 0 1 roI, .b 0 2 roI, .b 2 0 roI, .b 2 1 (owE .op 0), .b 3 0 roI, .b 3 1 (owE .op 1), .t 4 roI] [(0, 3), (2, 2), (3, 2)] [(0, 0, 0), (2, 2, 0), (3, 3, 0)])] Tryz.f15)
noncomputable def kk74 := kk73.f (s := sDrawAddOpFS) (snd kk73 [] Tryz.f5)
noncomputable def kk75 := kk74.f (s := iCountByFS) (snd kk74 [(3, .c 22 [.t 1 roI, .t 5 roI, .t 8 (roL .op), .t 9 roI, .t 10 roI] [] [])] Tryz.f30)
noncomputable def kk76 := kk75.f (s := iSeenByFS) (snd kk75 [(3, .c 18 [.b 1 0 roI, .b 1 1 (roL .op), .t 3 (owE .int 0), .t 4 roI] [(1, 2)] [(1, 1, 0)])] Tryz.f13)
noncomputable def kk77 := kk76.f (s := iCopyRowFS) (snd kk76 [] Tryz.f66)
theorem iCopyValueG_sound : ∀ n, Sound Tryz.prog (iCopyValueFSN n) ∧ Sound Tryz.prog (iCopyValuesFSN n)
  | 0 => ⟨(fun w S args x y h => by cases h), (fun w S args x y h => by cases h)⟩
  | n + 1 =>
    have ih := iCopyValueG_sound n
    ⟨snd (s := iCopyValueFSN (n + 1)) ((kk77.f ih.1).f ih.2) [(6, .c 33 [.b 2 0 roI, .b 2 1 roI, .b 2 2 roI, .b 2 3 roS, .b 2 4 (owE .val 0), .b 2 5 (owE .str 4), .b 2 6 (owE .row 6), .b 3 0 roI, .b 3 1 roI, .b 3 2 roI, .b 3 3 roS, .b 3 4 (owE .val 7), .b 3 5 (owE .str 8), .b 3 6 (owE .row 10), .t 18 (roL .row), .t 19 roI, .t 20 roI] [(2, 7), (3, 7)] [(2, 2, 0), (3, 3, 0)])] Tryz.f56,
    snd (s := iCopyValuesFSN (n + 1)) ((kk77.f ih.1).f ih.2) [(3, .c 20 [.t 3 (owE .val 0), .t 7 (roL .val), .t 8 roI, .t 9 roI] [] [])] Tryz.f65⟩
theorem iCopyValue_sound : Sound Tryz.prog iCopyValueFS := fun w S args x y h => (iCopyValueG_sound (siz (α := GVal) x + 1)).1 w S args x y h
noncomputable def kk78 := kk77.f iCopyValue_sound
theorem iCopyValues_sound : Sound Tryz.prog iCopyValuesFS := fun w S args x y h => (iCopyValueG_sound (siz (α := List GVal) x + 1)).2 w S args x y h
noncomputable def kk79 := kk78.f iCopyValues_sound
noncomputable def kk80 := kk79.f (s := iCopyReadsFS) (snd kk79 [(3, .c 23 [.t 3 (owE .read 0), .t 7 (roL .read), .t 8 roI, .t 9 roI] [] [])] Tryz.f39)
noncomputable def kk81 := kk80.f (s := iCopyOpFS) (snd kk80 [] Tryz.f19)
noncomputable def kk82 := kk81.f (s := iCopyOpsFS) (snd kk81 [(3, .c 20 [.t 3 (owE .op 0), .t 7 (roL .op), .t 8 roI, .t 9 roI] [] [])] Tryz.f36)
noncomputable def kk83 := kk82.f (s := iCopyReplicaFS) (snd kk82 [] Tryz.f17)
noncomputable def kk84 := kk83.f (s := iWithinFS) (snd kk83 [] Tryz.f37)
noncomputable def kk85 := kk84.f (s := iIsValidOpFS) (snd kk84 [(4, .c 81 [.b 1 0 roI, .b 1 1 roI, .b 1 2 roI, .b 1 3 (roL .int), .b 1 4 roI, .b 1 5 roI, .b 1 6 roI, .b 1 7 roI, .b 1 8 roI, .b 1 9 roS, .b 1 10 roS, .b 1 11 roI, .b 1 12 roS, .b 1 13 roS, .b 1 14 roI, .b 1 15 roI, .b 1 16 (roL .read), .t 25 (roL .int), .t 26 roI, .t 27 roI] [(1, 17)] [(1, 1, 0)])] Tryz.f54)
noncomputable def kk86 := kk85.f (s := iOpBeforeFS) (snd kk85 [] Tryz.f55)
noncomputable def kk87 := kk86.f (s := iIsValidLogFS) (snd kk86 [(2, .c 33 [.t 0 (roL .op), .t 5 (roL .op), .t 6 roI, .t 7 roI] [] [])] Tryz.f38)
noncomputable def kk88 := kk87.f (s := iIsValidReplicaFS) (snd kk87 [] Tryz.f18)
noncomputable def kk89 := kk88.f (s := iLastTimeFS) (snd kk88 [(3, .c 18 [.t 3 roI, .t 6 (roL .op), .t 7 roI, .t 8 roI] [] [])] Tryz.f20)
noncomputable def kk90 := kk89.f (s := iAddOpFS) (snd kk89 [] Tryz.f6)
noncomputable def kk91 := kk90.f (s := sL1IntsFS) (snd kk90 [(4, .c 26 [.t 0 (roL .int), .t 1 (roL .int), .t 5 roI] [] [])] Tryz.f26)
noncomputable def kk92 := kk91.f (s := sL16SameFS) (snd kk91 [] Tryz.f44)
noncomputable def kk93 := kk92.f (s := sL3TextsFS) (snd kk92 [(4, .c 26 [.t 0 (roL .str), .t 1 (roL .str), .t 5 roI] [] [])] Tryz.f69)
noncomputable def kk94 := kk93.f (s := sL3OriginsFS) (snd kk93 [(4, .c 26 [.t 0 (roL .origin), .t 1 (roL .origin), .t 5 roI] [] [])] Tryz.f70)
theorem sL3SameG_sound : ∀ n, Sound Tryz.prog (sL3SameFSN n)
  | 0 => (fun w S args x y h => by cases h)
  | n + 1 =>
    have ih := sL3SameG_sound n
    snd (s := sL3SameFSN (n + 1)) (kk94.f ih) [(9, .c 121 [.t 2 (roE .bool), .b 3 0 roI, .b 3 1 roI, .b 3 2 roI, .b 3 3 roS, .b 3 4 (roL .val), .b 3 5 (roL .str), .b 3 6 (roL .row), .b 4 0 roI, .b 4 1 roI, .b 4 2 roI, .b 4 3 roS, .b 4 4 (roL .val), .b 4 5 (roL .str), .b 4 6 (roL .row), .t 8 roI] [(3, 7), (4, 7)] [(3, 3, 0), (4, 4, 0)]), (4, .c 121 [.t 2 (roE .bool), .b 3 0 roI, .b 3 1 roI, .b 3 2 roI, .b 3 3 roS, .b 3 4 (roL .val), .b 3 5 (roL .str), .b 3 6 (roL .row), .b 4 0 roI, .b 4 1 roI, .b 4 2 roI, .b 4 3 roS, .b 4 4 (roL .val), .b 4 5 (roL .str), .b 4 6 (roL .row), .t 7 roI] [(3, 7), (4, 7)] [(3, 3, 0), (4, 4, 0)])] Tryz.f59
theorem sL3Same_sound : Sound Tryz.prog sL3SameFS := fun w S args x y h => (sL3SameG_sound (siz (α := GVal) x.1 + siz (α := GVal) x.2.1 + 1)) w S args x y h
noncomputable def kk95 := kk94.f sL3Same_sound
noncomputable def kk96 := kk95.f (s := sEqualValueFS) (snd kk95 [] Tryz.f45)
noncomputable def kk97 := kk96.f (s := sL41SameFS) (snd kk96 [(4, .c 41 [.t 0 (roL .read), .t 1 (roL .read), .t 5 roI] [] [])] Tryz.f27)
noncomputable def kk98 := kk97.f (s := sEqualOpFS) (snd kk97 [] Tryz.f10)
noncomputable def kk99 := kk98.f (s := sameOpsFS) (snd kk98 [(4, .c 27 [.t 0 (roL .op), .t 1 (roL .op), .t 5 roI] [] [])] Tryz.f8)
noncomputable def kk100 := kk99.f (s := sHasSeenFS) (snd kk99 [] Tryz.f11)
noncomputable def kk101 := kk100.f (s := iMissingOpsFS) (snd kk100 [(3, .c 52 [.t 1 (roL .int), .b 2 0 roI, .b 2 1 (roL .op), .t 5 (owE .op 0), .t 11 (roL .op), .t 12 roI, .t 13 roI] [(2, 2)] [(2, 2, 0)])] Tryz.f12)
theorem FnAddedOps_sound : Sound Tryz.prog FnAddedOpsFS := snd kk101 [(13, .c 111 [.b 3 0 roI, .b 3 1 (roL .op), .b 4 0 roI, .b 4 1 roI, .b 4 2 roI, .b 4 3 (roL .int), .b 4 4 roI, .b 4 5 roI, .b 4 6 roI, .b 4 7 roI, .b 4 8 roI, .b 4 9 roS, .b 4 10 roS, .b 4 11 roI, .b 4 12 roS, .b 4 13 roS, .b 4 14 roI, .b 4 15 roI, .b 4 16 (roL .read), .b 5 0 roI, .b 5 1 (owE .op 0), .t 9 roI, .b 10 0 roI, .b 10 1 roI, .b 10 2 roI, .b 10 3 (roL .int), .b 10 4 roI, .b 10 5 roI, .b 10 6 roI, .b 10 7 roI, .b 10 8 roI, .b 10 9 roS, .b 10 10 roS, .b 10 11 roI, .b 10 12 roS, .b 10 13 roS, .b 10 14 roI, .b 10 15 roI, .b 10 16 (roL .read), .t 11 roI] [(3, 2), (4, 17), (5, 2), (10, 17)] [(3, 3, 0), (4, 4, 0), (5, 5, 0), (10, 10, 0)])] Tryz.f3
noncomputable def kk102 := kk101.f FnAddedOps_sound
end Go.Proofs.YtjpmhfhcbehgcaaGreat
