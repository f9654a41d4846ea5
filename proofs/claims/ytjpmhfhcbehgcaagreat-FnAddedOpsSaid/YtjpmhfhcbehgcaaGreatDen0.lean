/- The functions compute their models, by gen.py. -/
import Derived.Test.YtjpmhfhcbehgcaaGreatEnvs
namespace Go.Proofs.YtjpmhfhcbehgcaaGreat
open Go.Abs Go.Proofs
set_option maxRecDepth 100000
noncomputable def kk1 := kk0.f (s := bigFS) (snd kk0 [] Tryz.f4)
noncomputable def kk2 := kk1.n (s := sL1NewFS) (nnd kk1 [(3, .c 32 [.t 0 (roL .u8), .t 3 roI, .t 4 roI] [] [])] Tryz.f14)
noncomputable def kk3 := kk2.f (s := sL3RowFS) (snd kk2 [] Tryz.f75)
theorem sL3CopyG_sound : ∀ n, Sound Tryz.prog (sL3CopyFSN n)
  | 0 => (fun w S args x y h => by cases h)
  | n + 1 =>
    have ih := sL3CopyG_sound n
    snd (s := sL3CopyFSN (n + 1)) (kk3.f ih) [(7, .c 56 [.b 1 0 roI, .b 1 1 roI, .b 1 2 roI, .b 1 3 roS, .b 1 4 (roL .val), .b 1 5 (roL .str), .b 1 6 (roL .row), .b 2 0 roI, .b 2 1 roI, .b 2 2 roI, .b 2 3 roS, .b 2 4 (owE .val 0), .b 2 5 (owE .str 4), .b 2 6 (owE .row 5), .b 3 0 roI, .b 3 1 roI, .b 3 2 roI, .b 3 3 roS, .b 3 4 (owE .val 6), .b 3 5 (owE .str 7), .b 3 6 (owE .row 8), .t 5 roI] [(1, 7), (2, 7), (3, 7)] [(1, 1, 0), (2, 2, 0), (3, 3, 0)]), (3, .c 56 [.b 1 0 roI, .b 1 1 roI, .b 1 2 roI, .b 1 3 roS, .b 1 4 (roL .val), .b 1 5 (roL .str), .b 1 6 (roL .row), .b 2 0 roI, .b 2 1 roI, .b 2 2 roI, .b 2 3 roS, .b 2 4 (owE .val 0), .b 2 5 (owE .str 4), .b 2 6 (owE .row 5), .b 3 0 roI, .b 3 1 roI, .b 3 2 roI, .b 3 3 roS, .b 3 4 (owE .val 6), .b 3 5 (owE .str 7), .b 3 6 (owE .row 8), .t 4 roI] [(1, 7), (2, 7), (3, 7)] [(1, 1, 0), (2, 2, 0), (3, 3, 0)])] Tryz.f67
theorem sL3Copy_sound : Sound Tryz.prog sL3CopyFS := fun w S args x y h => (sL3CopyG_sound (siz (α := GVal) x + 1)) w S args x y h
noncomputable def kk4 := kk3.f sL3Copy_sound
noncomputable def kk5 := kk4.f (s := sL16ReadFS) (snd kk4 [] Tryz.f57)
noncomputable def kk6 := kk5.f (s := sL16ReadsFS) (snd kk5 [(3, .c 21 [.t 0 (roL .read), .t 3 (owE .read 0), .t 4 roI] [] [])] Tryz.f40)
noncomputable def kk7 := kk6.f (s := sL41CopyFS) (snd kk6 [] Tryz.f21)
noncomputable def kk8 := kk7.f (s := sL1MaxFS) (snd kk7 [] Tryz.f41)
noncomputable def kk9 := kk8.f (s := sLastTimeFS) (snd kk8 [(3, .c 19 [.t 0 (roL .op), .t 3 roI, .t 4 roI] [] [])] Tryz.f22)
noncomputable def kk10 := kk9.f (s := sCountByFS) (snd kk9 [(3, .c 23 [.t 0 (roL .op), .t 1 roI, .t 5 roI, .t 6 roI] [] [])] Tryz.f29)
noncomputable def kk11 := kk10.f (s := sSeenByFS) (snd kk10 [(3, .c 18 [.b 1 0 roI, .b 1 1 (roL .op), .t 3 (owE .int 0), .t 4 roI] [(1, 2)] [(1, 1, 0)])] Tryz.f23)
noncomputable def kk12 := kk11.f (s := sL41OpsFS) (snd kk11 [(3, .c 21 [.t 0 (roL .op), .t 3 (owE .op 0), .t 4 roI] [] [])] Tryz.f42)
noncomputable def kk13 := kk12.f (s := sL43CopyFS) (snd kk12 [] Tryz.f24)
noncomputable def kk14 := kk13.f (s := sL1InFS) (snd kk13 [] Tryz.f28)
noncomputable def kk15 := kk14.f (s := sOpBeforeFS) (snd kk14 [] Tryz.f9)
noncomputable def kk16 := kk15.f (s := sL41SeenFS) (snd kk15 [(2, .c 19 [.t 0 (roL .int), .t 3 roI] [] [])] Tryz.f68)
noncomputable def kk17 := kk16.f (s := sIsValidOpFS) (snd kk16 [] Tryz.f58)
noncomputable def kk18 := kk17.f (s := sIsValidLogFS) (snd kk17 [(2, .c 36 [.t 0 (roL .op), .t 3 roI] [] [])] Tryz.f43)
noncomputable def kk19 := kk18.f (s := sIsValidReplicaFS) (snd kk18 [] Tryz.f25)
noncomputable def kk20 := kk19.f (s := sAddOpFS) (snd kk19 [] Tryz.f7)
noncomputable def kk21 := kk20.b (s := sL1ByteFS) (bnd kk20 [] Tryz.f49)
noncomputable def kk22 := kk21.b (s := sL1BelowFS) (bnd kk21 [] Tryz.f32)
noncomputable def kk23 := kk22.b (s := sL1PickIntFS) (bnd kk22 [] Tryz.f33)
noncomputable def kk24 := kk23.b (s := sL1PickFS) (bnd kk23 [] Tryz.f51)
noncomputable def kk25 := kk24.f (s := sFormatIntFS) (snd kk24 [(5, .c 31 [.t 0 roI, .t 3 (roE .bool), .t 4 roS] [] [])] Tryz.f72)
noncomputable def kk26 := kk25.f (s := sL10NumFS) (snd kk25 [] Tryz.f84)
noncomputable def kk27 := kk26.f (s := sL10NameFS) (snd kk26 [] Tryz.f89)
noncomputable def kk28 := kk27.b (s := sL10LeafFS) (bnd kk27 [] Tryz.f79)
noncomputable def kk29 := kk28.s (s := sL10OpFS) (ssd kk28 [] Tryz.f80)
noncomputable def kk30 := kk29.b (s := sL1OnceFS) (bnd kk29 [] Tryz.f47)
noncomputable def kk31 := kk30.b (s := sL10ListFS) (bnd kk30 [(4, .c 34 [.b 0 0 (roL .u8), .b 0 1 roI, .b 0 2 roI, .t 1 (roL .str), .b 4 0 roI, .b 4 1 roI, .b 4 2 roS, .b 4 3 (owE .expr 0), .b 5 0 roI, .b 5 1 roI, .b 5 2 roS, .b 5 3 (.own (.base .expr) false true 1), .t 6 roI, .t 7 roI] [(0, 3), (4, 4), (5, 4)] [(0, 0, 0), (4, 4, 0), (5, 5, 0)])] Tryz.f81)
noncomputable def kk32 := kk31.f (s := sL10CallFS) (snd kk31 [] Tryz.f82)
noncomputable def kk33 := kk32.b (s := sL1PickExprFS) (bnd kk32 [] Tryz.f83)
noncomputable def kk34 := kk33.b (s := sL10ColumnFS) (bnd kk33 [] Tryz.f85)
noncomputable def kk35 := kk34.b (s := sL10TableFS) (bnd kk34 [(4, .c 31 [.b 0 0 (roL .u8), .b 0 1 roI, .b 0 2 roI, .b 2 0 roI, .b 2 1 roI, .b 2 2 roS, .b 2 3 (owE .expr 0), .b 3 0 roI, .b 3 1 roI, .b 3 2 roS, .b 3 3 (owE .expr 1), .t 4 roI, .t 5 roI] [(0, 3), (2, 4), (3, 4)] [(0, 0, 0), (2, 2, 0), (3, 3, 0)])] Tryz.f86)
theorem sL10MakeG_sound : ∀ n, BSound Tryz.prog (sL10MakeFSN n)
  | 0 => (fun w S bb vs Et args x y h => by cases h)
  | n + 1 =>
    have ih := sL10MakeG_sound n
    bnd (s := sL10MakeFSN (n + 1)) (kk35.b ih) [] Tryz.f73
theorem sL10Make_sound : BSound Tryz.prog sL10MakeFS := fun w S bb vs Et args x y h => (sL10MakeG_sound (siz (α := GCur) x.1 + siz (α := List Str) x.2.1 + 1)) w S bb vs Et args x y h
noncomputable def kk36 := kk35.b sL10Make_sound
theorem sL10LeftG_sound : ∀ n, Sound Tryz.prog (sL10LeftFSN n)
  | 0 => (fun w S args x y h => by cases h)
  | n + 1 =>
    have ih := sL10LeftG_sound n
    snd (s := sL10LeftFSN (n + 1)) (kk36.f ih) [(3, .c 27 [.t 1 roI, .b 2 0 roI, .b 2 1 roI, .b 2 2 roS, .b 2 3 (roL .expr), .t 5 roI] [(2, 4)] [(2, 2, 0)])] Tryz.f90
theorem sL10Left_sound : Sound Tryz.prog sL10LeftFS := fun w S args x y h => (sL10LeftG_sound (siz (α := GExpr) x.1 + 1)) w S args x y h
noncomputable def kk37 := kk36.f sL10Left_sound
theorem sNestingOfG_sound : ∀ n, Sound Tryz.prog (sNestingOfFSN n)
  | 0 => (fun w S args x y h => by cases h)
  | n + 1 =>
    have ih := sNestingOfG_sound n
    snd (s := sNestingOfFSN (n + 1)) (kk37.f ih) [(3, .c 22 [.b 1 0 roI, .b 1 1 roI, .b 1 2 roS, .b 1 3 (roL .expr), .t 3 roI, .t 4 roI] [(1, 4)] [(1, 1, 0)])] Tryz.f91
theorem sNestingOf_sound : Sound Tryz.prog sNestingOfFS := fun w S args x y h => (sNestingOfG_sound (siz (α := GExpr) x + 1)) w S args x y h
noncomputable def kk38 := kk37.f sNestingOf_sound
noncomputable def kk39 := kk38.f (s := sIsValidTextFS) (snd kk38 [(2, .c 29 [.t 0 roS, .t 3 roI] [] [])] Tryz.f98)
noncomputable def kk40 := kk39.f (s := sL2ShapeFS) (snd kk39 [(2, .c 45 [.t 0 roS, .t 3 roI] [] [])] Tryz.f101)
noncomputable def kk41 := kk40.f (s := sL1HasFS) (snd kk40 [(2, .c 18 [.t 0 (roL .str), .t 1 roS, .t 5 roI] [] [])] Tryz.f103)
noncomputable def kk42 := kk41.f (s := sL2ReservedFS) (snd kk41 [] Tryz.f104)
noncomputable def kk43 := kk42.f (s := sIsReservedFS) (snd kk42 [] Tryz.f102)
noncomputable def kk44 := kk43.f (s := sIsValidNameFS) (snd kk43 [] Tryz.f99)
noncomputable def kk45 := kk44.f (s := sArgumentCountFS) (snd kk44 [] Tryz.f100)
noncomputable def kk46 := kk45.f (s := sL10NodeFS) (snd kk45 [] Tryz.f97)
theorem sL10AllG_sound : ∀ n, Sound Tryz.prog (sL10AllFSN n)
  | 0 => (fun w S args x y h => by cases h)
  | n + 1 =>
    have ih := sL10AllG_sound n
    snd (s := sL10AllFSN (n + 1)) (kk46.f ih) [(2, .c 20 [.b 1 0 roI, .b 1 1 roI, .b 1 2 roS, .b 1 3 (roL .expr), .t 3 roI] [(1, 4)] [(1, 1, 0)])] Tryz.f92
theorem sL10All_sound : Sound Tryz.prog sL10AllFS := fun w S args x y h => (sL10AllG_sound (siz (α := GExpr) x + 1)) w S args x y h
noncomputable def kk47 := kk46.f sL10All_sound
noncomputable def kk48 := kk47.f (s := sIsValidExprFS) (snd kk47 [] Tryz.f87)
noncomputable def kk49 := kk48.f (s := sJoinFS) (snd kk48 [(3, .c 27 [.t 0 (roL .str), .t 1 roS, .t 5 (owE .u8 0), .t 6 roI] [] [])] Tryz.f77)
noncomputable def kk50 := kk49.f (s := sLevelOfFS) (snd kk49 [] Tryz.f94)
noncomputable def kk51 := kk50.f (s := sOpSymbolFS) (snd kk50 [] Tryz.f96)
theorem sL12TextG_sound : ∀ n, Sound Tryz.prog (sL12TextFSN n) ∧ Sound Tryz.prog (sL12ListFSN n) ∧ Sound Tryz.prog (sL12AtFSN n)
  | 0 => ⟨(fun w S args x y h => by cases h), (fun w S args x y h => by cases h), (fun w S args x y h => by cases h)⟩
  | n + 1 =>
    have ih := sL12TextG_sound n
    ⟨snd (s := sL12TextFSN (n + 1)) (((kk51.f ih.1).f ih.2.1).f ih.2.2) [] Tryz.f88,
    snd (s := sL12ListFSN (n + 1)) (((kk51.f ih.1).f ih.2.1).f ih.2.2) [(3, .c 22 [.t 0 (roL .expr), .t 3 (owE .str 0), .t 4 roI] [] [])] Tryz.f93,
    snd (s := sL12AtFSN (n + 1)) (((kk51.f ih.1).f ih.2.1).f ih.2.2) [] Tryz.f95⟩
theorem sL12Text_sound : Sound Tryz.prog sL12TextFS := fun w S args x y h => (sL12TextG_sound (siz (α := GExpr) x + 1)).1 w S args x y h
noncomputable def kk52 := kk51.f sL12Text_sound
theorem sL12List_sound : Sound Tryz.prog sL12ListFS := fun w S args x y h => (sL12TextG_sound (siz (α := List GExpr) x + 1)).2.1 w S args x y h
noncomputable def kk53 := kk52.f sL12List_sound
theorem sL12At_sound : Sound Tryz.prog sL12AtFS := fun w S args x y h => (sL12TextG_sound (siz (α := GExpr) x.1 + 1)).2.2 w S args x y h
noncomputable def kk54 := kk53.f sL12At_sound
noncomputable def kk55 := kk54.f (s := sFormatExprFS) (snd kk54 [] Tryz.f74)
noncomputable def kk56 := kk55.b (s := sL17ExprFS) (bnd kk55 [] Tryz.f61)
noncomputable def kk57 := kk56.f (s := sSplitByteFS) (snd kk56 [(4, .c 36 [.t 0 roS, .t 1 (roE .u8), .t 5 (owE .str 0), .t 6 roI, .t 7 roI] [] [])] Tryz.f76)
noncomputable def kk58 := kk57.b (s := sL1TurnedFS) (bnd kk57 [] Tryz.f78)
noncomputable def kk59 := kk58.b (s := sL17DataFS) (bnd kk58 [(9, .c 46 [.b 0 0 (roL .u8), .b 0 1 roI, .b 0 2 roI, .t 3 roS, .t 4 roI, .t 5 roI, .t 6 roI, .t 7 (owE .str 0), .t 8 roI] [(0, 3)] [(0, 0, 0)]), (5, .c 46 [.b 0 0 (roL .u8), .b 0 1 roI, .b 0 2 roI, .t 3 roS, .t 4 roI, .t 5 roI, .t 6 roI] [(0, 3)] [(0, 0, 0)])] Tryz.f71)
noncomputable def kk60 := kk59.b (s := sL17CellFS) (bnd kk59 [] Tryz.f60)
noncomputable def kk61 := kk60.b (s := sL41EditFS) (bnd kk60 [] Tryz.f50)
noncomputable def kk62 := kk61.b (s := sL14ReadFS) (bnd kk61 [] Tryz.f62)
end Go.Proofs.YtjpmhfhcbehgcaaGreat
