/- The functions compute their models, by gen.py. -/
import Derived.Test.YtdlfoecpgaenpaaGreatDoorDen0
namespace Go.Proofs.YtdlfoecpgaenpaaGreatDoor
noncomputable section
open Go.Abs Go.Proofs
set_option maxRecDepth 100000
def kk66 := kk65.f (s := sDefinersFS) (snd kk65 [(3, .c 34 [.t 0 (roL .part), .t 1 roS, .t 5 (owE .int 0), .t 6 roI] [] [])] Tryz.f35)
def kk67 := kk66.f (s := sResolveFS) (snd kk66 [] Tryz.f17)
def kk68 := kk67.f (s := sSortNamesFS) (snd (kk67.pres [49, 53]) [(6, .c 63 [.t 0 (roL .str), .t 3 (owE .str 0), .t 4 roI, .t 5 roI] [] []), (3, .c 63 [.t 0 (roL .str), .t 3 (owE .str 0), .t 4 roI] [] [])] Tryz.f63)
theorem sL13FreeG_sound : ∀ n, Sound Tryz.prog (sL13FreeFSN n)
 | 0 => (fun w S args x y h => by cases h)
 | n + 1 =>
  have ih := sL13FreeG_sound n
  snd (s := sL13FreeFSN (n + 1)) (kk68.f ih) [(5, .c 61 [.t 1 (roL .str), .b 2 0 roI, .b 2 1 roI, .b 2 2 roS, .b 2 3 (roL .expr), .t 5 (owE .str 0), .t 6 roI] [(2, 4)] [(2, 2, 0)])] Tryz.f64
theorem sL13Free_sound : Sound Tryz.prog sL13FreeFS := fun w S args x y h => (sL13FreeG_sound (siz (α := GExpr) x.1 + siz (α := List Str) x.2 + 1)) w S args x y h
def kk69 := kk68.f sL13Free_sound
def kk70 := kk69.f (s := sFreeNamesFS) (snd kk69 [] Tryz.f36)
def kk71 := kk70.f (s := sUsesOfFS) (snd kk70 [] Tryz.f19)
theorem sL13CaughtG_sound : ∀ n, Sound Tryz.prog (sL13CaughtFSN n)
 | 0 => (fun w S args x y h => by cases h)
 | n + 1 =>
  have ih := sL13CaughtG_sound n
  snd (s := sL13CaughtFSN (n + 1)) (kk71.f ih) [(4, .c 66 [.t 1 roS, .t 2 roS, .t 3 (roL .str), .b 4 0 roI, .b 4 1 roI, .b 4 2 roS, .b 4 3 (roL .expr), .t 9 roI] [(4, 4)] [(4, 4, 0)])] Tryz.f62
theorem sL13Caught_sound : Sound Tryz.prog sL13CaughtFS := fun w S args x y h => (sL13CaughtG_sound (siz (α := GExpr) x.1 + siz (α := List Str) x.2.2.2 + 1)) w S args x y h
def kk72 := kk71.f sL13Caught_sound
def kk73 := kk72.f (s := sIsCapturedFS) (snd kk72 [] Tryz.f34)
def kk74 := kk73.f (s := sL38CheckFS) (snd kk73 [(5, .c 48 [.t 0 (roL .part), .t 1 roS, .t 2 roS, .t 7 roI, .t 8 roI] [] [])] Tryz.f16)
theorem sL10CopyG_sound : ∀ n, Sound Tryz.prog (sL10CopyFSN n)
 | 0 => (fun w S args x y h => by cases h)
 | n + 1 =>
  have ih := sL10CopyG_sound n
  snd (s := sL10CopyFSN (n + 1)) (kk74.f ih) [(3, .c 31 [.b 1 0 roI, .b 1 1 roI, .b 1 2 roS, .b 1 3 (roL .expr), .b 2 0 roI, .b 2 1 roI, .b 2 2 roS, .b 2 3 (owE .expr 0), .b 3 0 roI, .b 3 1 roI, .b 3 2 roS, .b 3 3 (owE .expr 4), .t 4 roI] [(1, 4), (2, 4), (3, 4)] [(1, 1, 0), (2, 2, 0), (3, 3, 0)])] Tryz.f68
theorem sL10Copy_sound : Sound Tryz.prog sL10CopyFS := fun w S args x y h => (sL10CopyG_sound (siz (α := GExpr) x + 1)) w S args x y h
def kk75 := kk74.f sL10Copy_sound
theorem sL13RenameG_sound : ∀ n, Sound Tryz.prog (sL13RenameFSN n)
 | 0 => (fun w S args x y h => by cases h)
 | n + 1 =>
  have ih := sL13RenameG_sound n
  snd (s := sL13RenameFSN (n + 1)) (kk75.f ih) [(5, .c 77 [.t 1 roS, .t 2 roS, .b 3 0 roI, .b 3 1 roI, .b 3 2 roS, .b 3 3 (roL .expr), .b 6 0 roI, .b 6 1 roI, .b 6 2 roS, .b 6 3 (owE .expr 0), .b 7 0 roI, .b 7 1 roI, .b 7 2 roS, .b 7 3 (owE .expr 1), .t 8 roI] [(3, 4), (6, 4), (7, 4)] [(3, 3, 0), (6, 6, 0), (7, 7, 0)])] Tryz.f38
theorem sL13Rename_sound : Sound Tryz.prog sL13RenameFS := fun w S args x y h => (sL13RenameG_sound (siz (α := GExpr) x.1 + 1)) w S args x y h
def kk76 := kk75.f sL13Rename_sound
def kk77 := kk76.f (s := sRenameFreeFS) (snd kk76 [] Tryz.f20)
def kk78 := kk77.f (s := sJoinFS) (snd kk77 [(3, .c 27 [.t 0 (roL .str), .t 1 roS, .t 5 (owE .u8 0), .t 6 roI] [] [])] Tryz.f96)
def kk79 := kk78.f (s := sLevelOfFS) (snd kk78 [] Tryz.f71)
def kk80 := kk79.f (s := sOpSymbolFS) (snd kk79 [] Tryz.f73)
theorem sL12TextG_sound : ∀ n, Sound Tryz.prog (sL12TextFSN n) /\ Sound Tryz.prog (sL12ListFSN n) /\ Sound Tryz.prog (sL12AtFSN n)
 | 0 => ⟨(fun w S args x y h => by cases h), (fun w S args x y h => by cases h), (fun w S args x y h => by cases h)⟩
 | n + 1 =>
  have ih := sL12TextG_sound n
  ⟨snd (s := sL12TextFSN (n + 1)) (((kk80.f ih.1).f ih.2.1).f ih.2.2) [] Tryz.f39,
  snd (s := sL12ListFSN (n + 1)) (((kk80.f ih.1).f ih.2.1).f ih.2.2) [(3, .c 22 [.t 0 (roL .expr), .t 3 (owE .str 0), .t 4 roI] [] [])] Tryz.f70,
  snd (s := sL12AtFSN (n + 1)) (((kk80.f ih.1).f ih.2.1).f ih.2.2) [] Tryz.f72⟩
theorem sL12Text_sound : Sound Tryz.prog sL12TextFS := fun w S args x y h => (sL12TextG_sound (siz (α := GExpr) x + 1)).1 w S args x y h
def kk81 := kk80.f sL12Text_sound
theorem sL12List_sound : Sound Tryz.prog sL12ListFS := fun w S args x y h => (sL12TextG_sound (siz (α := List GExpr) x + 1)).2.1 w S args x y h
def kk82 := kk81.f sL12List_sound
theorem sL12At_sound : Sound Tryz.prog sL12AtFS := fun w S args x y h => (sL12TextG_sound (siz (α := GExpr) x.1 + 1)).2.2 w S args x y h
def kk83 := kk82.f sL12At_sound
def kk84 := kk83.f (s := sFormatExprFS) (snd kk83 [] Tryz.f21)
def kk85 := kk84.f (s := sRenameVariableFS) (snd kk84 [(10, .c 120 [.t 1 roS, .t 2 roS, .b 3 0 (roL .cell), .b 6 0 (owE .cell 0), .b 8 0 (owE .cell 1), .t 9 (.own (.base .part) false true 2), .t 10 roI, .t 11 roI] [(3, 1), (6, 1), (8, 1)] [(3, 3, 0), (6, 6, 0), (8, 8, 0)])] Tryz.f5)
def kk86 := kk85.f (s := toCellFS) (snd kk85 [] Tryz.f40)
def kk87 := kk86.f (s := toCellSFS) (snd kk86 [(3, .c 23 [.t 0 (roL .cell), .t 3 (owE .cell 0), .t 4 roI] [] [])] Tryz.f22)
def kk88 := kk87.f (s := toNotebookFS) (snd kk87 [] Tryz.f6)
def kk89 := kk88.f (s := iCopyNotebookFS) (snd kk88 [] Tryz.f24)
def kk90 := kk89.f (s := iWithinFS) (snd kk89 [] Tryz.f103)
def kk91 := kk90.f (s := iIsWordFS) (snd kk90 [(2, .c 42 [.t 0 roS, .t 3 roI] [] [])] Tryz.f77)
def kk92 := kk91.f (s := iArgumentCountFS) (snd kk91 [] Tryz.f105)
def kk93 := kk92.f (s := iIsReservedFS) (snd kk92 [] Tryz.f78)
def kk94 := kk93.f (s := iIsValidNameFS) (snd kk93 [] Tryz.f43)
def kk95 := kk94.f (s := iIsPrintableFS) (snd kk94 [(2, .c 23 [.t 0 roS, .t 3 roI] [] [])] Tryz.f104)
def kk96 := kk95.f (s := iIsValidCellFS) (snd kk95 [] Tryz.f75)
def kk97 := kk96.f (s := iCellIndexFS) (snd kk96 [(2, .c 21 [.t 1 roI, .t 8 (roL .cell), .t 9 roI, .t 10 roI] [] [])] Tryz.f76)
def kk98 := kk97.f (s := iIsValidNotebookFS) (snd kk97 [(2, .c 29 [.b 1 0 (roL .cell), .t 6 (roL .cell), .t 7 roI, .t 8 roI] [(1, 1)] [(1, 1, 0)])] Tryz.f42)
def kk99 := kk98.f (s := iNumberValueFS) (snd kk98 [] Tryz.f97)
theorem iNodeCountG_sound : ∀ n, Sound Tryz.prog (iNodeCountFSN n)
 | 0 => (fun w S args x y h => by cases h)
 | n + 1 =>
  have ih := iNodeCountG_sound n
  snd (s := iNodeCountFSN (n + 1)) (kk99.f ih) [(3, .c 19 [.t 3 roI, .t 7 (roL .expr), .t 8 roI, .t 9 roI] [] [])] Tryz.f108
theorem iNodeCount_sound : Sound Tryz.prog iNodeCountFS := fun w S args x y h => (iNodeCountG_sound (siz (α := GExpr) x + 1)) w S args x y h
def kk100 := kk99.f iNodeCount_sound
theorem iNestingOfG_sound : ∀ n, Sound Tryz.prog (iNestingOfFSN n)
 | 0 => (fun w S args x y h => by cases h)
 | n + 1 =>
  have ih := iNestingOfG_sound n
  snd (s := iNestingOfFSN (n + 1)) (kk100.f ih) [(3, .c 20 [.t 3 roI, .t 7 (roL .expr), .t 8 roI, .t 9 roI] [] [])] Tryz.f109
theorem iNestingOf_sound : Sound Tryz.prog iNestingOfFS := fun w S args x y h => (iNestingOfG_sound (siz (α := GExpr) x + 1)) w S args x y h
def kk101 := kk100.f iNestingOf_sound
def kk102 := kk101.f (s := iIsValidTextFS) (snd kk101 [(2, .c 29 [.t 0 roS, .t 3 roI] [] [])] Tryz.f163)
def kk103 := kk102.f (s := iIsNodeFS) (snd kk102 [] Tryz.f139)
theorem iAreNodesG_sound : ∀ n, Sound Tryz.prog (iAreNodesFSN n)
 | 0 => (fun w S args x y h => by cases h)
 | n + 1 =>
  have ih := iAreNodesG_sound n
  snd (s := iAreNodesFSN (n + 1)) (kk103.f ih) [(2, .c 18 [.b 1 0 roI, .b 1 1 roI, .b 1 2 roS, .b 1 3 (roL .expr), .t 6 (roL .expr), .t 7 roI, .t 8 roI] [(1, 4)] [(1, 1, 0)])] Tryz.f110
theorem iAreNodes_sound : Sound Tryz.prog iAreNodesFS := fun w S args x y h => (iAreNodesG_sound (siz (α := GExpr) x + 1)) w S args x y h
def kk104 := kk103.f iAreNodes_sound
def kk105 := kk104.f (s := iIsValidExprFS) (snd kk104 [] Tryz.f82)
def kk106 := kk105.f iParse_sound
def kk107 := kk106.f libIndexByte_sound
def kk108 := kk107.f libHasPrefix_sound
def kk109 := kk108.f (s := iTokenAtFS) (snd kk108 [(4, .c 152 [.t 0 roS, .t 1 roI, .b 4 0 roI, .b 4 1 roI, .b 4 2 roI, .b 4 3 roS, .t 7 roI] [(4, 4)] [(4, 4, 0)]), (8, .c 152 [.t 0 roS, .t 1 roI, .b 4 0 roI, .b 4 1 roI, .b 4 2 roI, .b 4 3 roS, .t 7 roI] [(4, 4)] [(4, 4, 0)])] Tryz.f153)
def kk110 := kk109.f (s := iTokenizeFS) (snd kk109 [(5, .c 44 [.t 0 roS, .t 4 (owE .token 0), .t 5 roI] [] [])] Tryz.f130)
def kk111 := kk110.f (s := iOpSymbolFS) (snd kk110 [] Tryz.f116)
def kk112 := kk111.f (s := iIsKeywordFS) (snd kk111 [] Tryz.f154)
def kk113 := kk112.b (s := iParserNextFS) (bnd kk112 [] Tryz.f155)
def kk114 := kk113.b (s := iParserFailFS) (bnd kk113 [] Tryz.f176)
def kk115 := kk114.b (s := iParserNameFS) (bnd kk114 [] Tryz.f156)
def kk116 := kk115.f (s := iIsSymbolFS) (snd kk115 [] Tryz.f177)
def kk117 := kk116.b (s := iParserNeedFS) (bnd kk116 [] Tryz.f157)
def kk118 := kk117.b (s := iParserSymbolFS) (bnd kk117 [] Tryz.f159)
theorem iParserExprG_sound : ∀ n, BSound Tryz.prog (iParserExprFSN n) /\ BSound Tryz.prog (iParserSumFSN n) /\ BSound Tryz.prog (iParserProductFSN n) /\ BSound Tryz.prog (iParserAtomFSN n) /\ BSound Tryz.prog (iParserList2FSN n)
 | 0 => ⟨(fun w S bb vs Et args x y h => by cases h), (fun w S bb vs Et args x y h => by cases h), (fun w S bb vs Et args x y h => by cases h), (fun w S bb vs Et args x y h => by cases h), (fun w S bb vs Et args x y h => by cases h)⟩
 | n + 1 =>
  have ih := iParserExprG_sound n
  ⟨bnd (s := iParserExprFSN (n + 1)) (((((kk118.b ih.1).b ih.2.1).b ih.2.2.1).b ih.2.2.2.1).b ih.2.2.2.2) [(28, .c 133 [.b 0 0 (roL .token), .b 0 1 roI, .b 0 2 roI, .b 2 0 roI, .b 2 1 roI, .b 2 2 roS, .b 2 3 (owE .expr 0), .b 6 0 roI, .b 6 1 roI, .b 6 2 roS, .b 6 3 (roL .expr), .t 115 (owE .int 1), .t 116 roI, .t 117 roI] [(0, 3), (2, 4), (6, 4)] [(0, 0, 0), (2, 2, 0), (6, 6, 0)])] Tryz.f131,
  bnd (s := iParserSumFSN (n + 1)) (((((kk118.b ih.1).b ih.2.1).b ih.2.2.1).b ih.2.2.2.1).b ih.2.2.2.2) [(2, .c 25 [.b 0 0 (roL .token), .b 0 1 roI, .b 0 2 roI, .b 2 0 roI, .b 2 1 roI, .b 2 2 roS, .b 2 3 (owE .expr 0), .b 3 0 roI, .b 3 1 roI, .b 3 2 roS, .b 3 3 (roL .expr)] [(0, 3), (2, 4), (3, 4)] [(0, 0, 0), (2, 2, 0), (3, 3, 0)])] Tryz.f158,
  bnd (s := iParserProductFSN (n + 1)) (((((kk118.b ih.1).b ih.2.1).b ih.2.2.1).b ih.2.2.2.1).b ih.2.2.2.2) [(2, .c 14 [.b 0 0 (roL .token), .b 0 1 roI, .b 0 2 roI, .b 2 0 roI, .b 2 1 roI, .b 2 2 roS, .b 2 3 (owE .expr 0), .b 3 0 roI, .b 3 1 roI, .b 3 2 roS, .b 3 3 (roL .expr)] [(0, 3), (2, 4), (3, 4)] [(0, 0, 0), (2, 2, 0), (3, 3, 0)])] Tryz.f178,
  bnd (s := iParserAtomFSN (n + 1)) (((((kk118.b ih.1).b ih.2.1).b ih.2.2.1).b ih.2.2.2.1).b ih.2.2.2.2) [] Tryz.f193,
  bnd (s := iParserList2FSN (n + 1)) (((((kk118.b ih.1).b ih.2.1).b ih.2.2.1).b ih.2.2.2.1).b ih.2.2.2.2) [(4, .c 27 [.b 0 0 (roL .token), .b 0 1 roI, .b 0 2 roI, .t 1 roS, .t 5 (.own (.base .expr) false true 0)] [(0, 3)] [(0, 0, 0)])] Tryz.f221⟩
theorem iParserExpr_sound : BSound Tryz.prog iParserExprFS := fun w S bb vs Et args x y h => (iParserExprG_sound (siz (α := GPsr) x + 1)).1 w S bb vs Et args x y h
def kk119 := kk118.b iParserExpr_sound
theorem iParserSum_sound : BSound Tryz.prog iParserSumFS := fun w S bb vs Et args x y h => (iParserExprG_sound (siz (α := GPsr) x + 1)).2.1 w S bb vs Et args x y h
def kk120 := kk119.b iParserSum_sound
theorem iParserProduct_sound : BSound Tryz.prog iParserProductFS := fun w S bb vs Et args x y h => (iParserExprG_sound (siz (α := GPsr) x + 1)).2.2.1 w S bb vs Et args x y h
def kk121 := kk120.b iParserProduct_sound
theorem iParserAtom_sound : BSound Tryz.prog iParserAtomFS := fun w S bb vs Et args x y h => (iParserExprG_sound (siz (α := GPsr) x + 1)).2.2.2.1 w S bb vs Et args x y h
def kk122 := kk121.b iParserAtom_sound
theorem iParserList2_sound : BSound Tryz.prog iParserList2FS := fun w S bb vs Et args x y h => (iParserExprG_sound (siz (α := GPsr) x.1 + 1)).2.2.2.2 w S bb vs Et args x y h
def kk123 := kk122.b iParserList2_sound
def kk124 := kk123.f (s := iParseExprFS) (snd kk123 [] Tryz.f98)
def kk125 := kk124.f (s := iErrorValueFS) (snd kk124 [] Tryz.f99)
def kk126 := kk125.f libSplit_sound
def kk127 := kk126.f (s := iSplitByteFS) (snd kk126 [] Tryz.f133)
def kk128 := kk127.f (s := iDataRowFS) (snd kk127 [(4, .c 38 [.t 1 roI, .t 7 (owE .int 0), .t 15 (owE .str 1), .t 16 roI, .t 17 roI] [] [])] Tryz.f134)
theorem iIndexOf_sound : Sound Tryz.prog iIndexOfFS := snd kk128 [(2, .c 19 [.t 1 roS, .t 7 (roL .str), .t 8 roI, .t 9 roI] [] [])] Tryz.f46
def kk129 := kk128.f iIndexOf_sound
def kk130 := kk129.f (s := iAllDistinctFS) (snd kk129 [(2, .c 18 [.t 0 (roL .str), .t 5 (roL .str), .t 6 roI, .t 7 roI] [] [])] Tryz.f166)
def kk131 := kk130.f (s := iAreColumnsFS) (snd kk130 [(2, .c 22 [.t 0 (roL .str), .t 5 (roL .str), .t 6 roI, .t 7 roI] [] [])] Tryz.f136)
end
end Go.Proofs.YtdlfoecpgaenpaaGreatDoor
