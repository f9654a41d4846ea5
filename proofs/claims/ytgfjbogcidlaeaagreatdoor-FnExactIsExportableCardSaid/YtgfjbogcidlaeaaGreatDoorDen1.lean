import Derived.Test.YtgfjbogcidlaeaaGreatDoorDen0
/- The functions compute their models, by gen.py. -/
namespace Go.Proofs.YtgfjbogcidlaeaaGreatDoor
noncomputable section
open Go.Abs Go.Proofs
set_option maxRecDepth 100000
def kk66 := kk65.f (s := sL23SetFS) (snd kk65 [(7, .c 55 [.t 0 (roL .int), .t 3 (owE .int 0), .t 4 roI, .t 5 roI] [] []), (3, .c 55 [.t 0 (roL .int), .t 3 (owE .int 0), .t 4 roI] [] [])] Tryz.f98)
def kk67 := kk66.f (s := sSortNamesFS) (snd (kk66.pres [49, 53]) [(6, .c 63 [.t 0 (roL .str), .t 3 (owE .str 0), .t 4 roI, .t 5 roI] [] []), (3, .c 63 [.t 0 (roL .str), .t 3 (owE .str 0), .t 4 roI] [] [])] Tryz.f67)
theorem sL13FreeG_sound : ∀ n, Sound Tryz.prog (sL13FreeFSN n)
 | 0 => (fun w S args x y h => by cases h)
 | n + 1 =>
  have ih := sL13FreeG_sound n
  snd (s := sL13FreeFSN (n + 1)) (kk67.f ih) [(5, .c 61 [.t 1 (roL .str), .b 2 0 roI, .b 2 1 roI, .b 2 2 roS, .b 2 3 (roL .expr), .t 5 (owE .str 0), .t 6 roI] [(2, 4)] [(2, 2, 0)])] Tryz.f200
theorem sL13Free_sound : Sound Tryz.prog sL13FreeFS := fun w S args x y h => (sL13FreeG_sound (siz (α := GExpr) x.1 + siz (α := List Str) x.2 + 1)) w S args x y h
def kk68 := kk67.f sL13Free_sound
def kk69 := kk68.f (s := sFreeNamesFS) (snd kk68 [] Tryz.f166)
def kk70 := kk69.f (s := sUsesOfFS) (snd kk69 [] Tryz.f119)
def kk71 := kk70.f (s := sDefinersFS) (snd kk70 [(3, .c 34 [.t 0 (roL .part), .t 1 roS, .t 5 (owE .int 0), .t 6 roI] [] [])] Tryz.f66)
def kk72 := kk71.f (s := sResolveFS) (snd kk71 [] Tryz.f120)
def kk73 := kk72.f (s := sDirectUsesFS) (snd kk72 [(6, .c 42 [.t 0 (roL .part), .t 5 (owE .int 0), .t 6 (owE .str 1), .t 7 roI] [] [])] Tryz.f82)
def kk74 := kk73.f (s := sUsersFS) (snd kk73 [(3, .c 24 [.t 0 (roL .part), .t 1 roI, .t 5 (owE .int 0), .t 6 roI] [] [])] Tryz.f137)
def kk75 := kk74.f (s := sL23NearFS) (snd kk74 [] Tryz.f97)
def kk76 := kk75.f (s := sL23AllFS) (snd kk75 [(7, .c 50 [.t 0 (roL .part), .t 2 (roE .bool), .t 7 (owE .int 0), .t 8 roI, .t 9 (owE .int 1), .t 10 roI] [] []), (3, .c 50 [.t 0 (roL .part), .t 2 (roE .bool), .t 7 (owE .int 0), .t 8 roI] [] [])] Tryz.f62)
def kk77 := kk76.f (s := sAllUsesFS) (snd kk76 [] Tryz.f37)
def kk78 := kk77.f (s := sOnCycleFS) (snd kk77 [] Tryz.f18)
def kk79 := kk78.f (s := sL22NamesFS) (snd kk78 [(3, .c 43 [.t 0 (roL .part), .t 1 (roE .bool), .t 5 (owE .str 0), .t 6 roI] [] [])] Tryz.f40)
def kk80 := kk79.f (s := sDuplicateNamesFS) (snd kk79 [] Tryz.f20)
def kk81 := kk80.f (s := sIsExportableFS) (snd kk80 [(3, .c 32 [.b 1 0 (roL .cell), .t 3 (.own (.base .part) false true 0), .t 4 roI] [(1, 1)] [(1, 1, 0)])] Tryz.f6)
def kk82 := kk81.f (s := toCellFS) (snd kk81 [] Tryz.f41)
def kk83 := kk82.f (s := toCellSFS) (snd kk82 [(3, .c 23 [.t 0 (roL .cell), .t 3 (owE .cell 0), .t 4 roI] [] [])] Tryz.f21)
def kk84 := kk83.f (s := toNotebookFS) (snd kk83 [] Tryz.f7)
def kk85 := kk84.f (s := iWithinFS) (snd kk84 [] Tryz.f74)
def kk86 := kk85.f (s := iIsPrintableFS) (snd kk85 [(2, .c 23 [.t 0 roS, .t 3 roI] [] [])] Tryz.f75)
def kk87 := kk86.f (s := iIsWordFS) (snd kk86 [(2, .c 42 [.t 0 roS, .t 3 roI] [] [])] Tryz.f110)
def kk88 := kk87.f (s := iArgumentCountFS) (snd kk87 [] Tryz.f160)
def kk89 := kk88.f (s := iIsReservedFS) (snd kk88 [] Tryz.f111)
def kk90 := kk89.f (s := iIsValidNameFS) (snd kk89 [] Tryz.f76)
def kk91 := kk90.f (s := iIsValidCellFS) (snd kk90 [] Tryz.f43)
def kk92 := kk91.f (s := iCellIndexFS) (snd kk91 [(2, .c 21 [.t 1 roI, .t 8 (roL .cell), .t 9 roI, .t 10 roI] [] [])] Tryz.f44)
def kk93 := kk92.f (s := iIsValidNotebookFS) (snd kk92 [(2, .c 29 [.b 1 0 (roL .cell), .t 6 (roL .cell), .t 7 roI, .t 8 roI] [(1, 1)] [(1, 1, 0)])] Tryz.f23)
def kk94 := kk93.f (s := iNumberValueFS) (snd kk93 [] Tryz.f68)
def kk95 := kk94.f iParse_sound
def kk96 := kk95.f (s := iIsValidTextFS) (snd kk95 [(2, .c 29 [.t 0 roS, .t 3 roI] [] [])] Tryz.f154)
def kk97 := kk96.f libIndexByte_sound
def kk98 := kk97.f libHasPrefix_sound
def kk99 := kk98.f (s := iTokenAtFS) (snd kk98 [(4, .c 152 [.t 0 roS, .t 1 roI, .b 4 0 roI, .b 4 1 roI, .b 4 2 roI, .b 4 3 roS, .t 7 roI] [(4, 4)] [(4, 4, 0)]), (8, .c 152 [.t 0 roS, .t 1 roI, .b 4 0 roI, .b 4 1 roI, .b 4 2 roI, .b 4 3 roS, .t 7 roI] [(4, 4)] [(4, 4, 0)])] Tryz.f140)
def kk100 := kk99.f (s := iTokenizeFS) (snd kk99 [(5, .c 44 [.t 0 roS, .t 4 (owE .token 0), .t 5 roI] [] [])] Tryz.f101)
def kk101 := kk100.f (s := iIsKeywordFS) (snd kk100 [] Tryz.f141)
def kk102 := kk101.b (s := iParserNextFS) (bnd kk101 [] Tryz.f142)
def kk103 := kk102.b (s := iParserFailFS) (bnd kk102 [] Tryz.f186)
def kk104 := kk103.b (s := iParserNameFS) (bnd kk103 [] Tryz.f143)
def kk105 := kk104.f (s := iIsSymbolFS) (snd kk104 [] Tryz.f187)
def kk106 := kk105.b (s := iParserNeedFS) (bnd kk105 [] Tryz.f144)
def kk107 := kk106.b (s := iParserSymbolFS) (bnd kk106 [] Tryz.f146)
def kk108 := kk107.f (s := iOpSymbolFS) (snd kk107 [] Tryz.f147)
theorem iParserExprG_sound : ∀ n, BSound Tryz.prog (iParserExprFSN n) /\ BSound Tryz.prog (iParserSumFSN n) /\ BSound Tryz.prog (iParserProductFSN n) /\ BSound Tryz.prog (iParserAtomFSN n) /\ BSound Tryz.prog (iParserList2FSN n)
 | 0 => ⟨(fun w S bb vs Et args x y h => by cases h), (fun w S bb vs Et args x y h => by cases h), (fun w S bb vs Et args x y h => by cases h), (fun w S bb vs Et args x y h => by cases h), (fun w S bb vs Et args x y h => by cases h)⟩
 | n + 1 =>
  have ih := iParserExprG_sound n
  ⟨bnd (s := iParserExprFSN (n + 1)) (((((kk108.b ih.1).b ih.2.1).b ih.2.2.1).b ih.2.2.2.1).b ih.2.2.2.2) [(28, .c 133 [.b 0 0 (roL .token), .b 0 1 roI, .b 0 2 roI, .b 2 0 roI, .b 2 1 roI, .b 2 2 roS, .b 2 3 (owE .expr 0), .b 6 0 roI, .b 6 1 roI, .b 6 2 roS, .b 6 3 (roL .expr), .t 115 (owE .int 1), .t 116 roI, .t 117 roI] [(0, 3), (2, 4), (6, 4)] [(0, 0, 0), (2, 2, 0), (6, 6, 0)])] Tryz.f102,
  bnd (s := iParserSumFSN (n + 1)) (((((kk108.b ih.1).b ih.2.1).b ih.2.2.1).b ih.2.2.2.1).b ih.2.2.2.2) [(2, .c 25 [.b 0 0 (roL .token), .b 0 1 roI, .b 0 2 roI, .b 2 0 roI, .b 2 1 roI, .b 2 2 roS, .b 2 3 (owE .expr 0), .b 3 0 roI, .b 3 1 roI, .b 3 2 roS, .b 3 3 (roL .expr)] [(0, 3), (2, 4), (3, 4)] [(0, 0, 0), (2, 2, 0), (3, 3, 0)])] Tryz.f145,
  bnd (s := iParserProductFSN (n + 1)) (((((kk108.b ih.1).b ih.2.1).b ih.2.2.1).b ih.2.2.2.1).b ih.2.2.2.2) [(2, .c 14 [.b 0 0 (roL .token), .b 0 1 roI, .b 0 2 roI, .b 2 0 roI, .b 2 1 roI, .b 2 2 roS, .b 2 3 (owE .expr 0), .b 3 0 roI, .b 3 1 roI, .b 3 2 roS, .b 3 3 (roL .expr)] [(0, 3), (2, 4), (3, 4)] [(0, 0, 0), (2, 2, 0), (3, 3, 0)])] Tryz.f188,
  bnd (s := iParserAtomFSN (n + 1)) (((((kk108.b ih.1).b ih.2.1).b ih.2.2.1).b ih.2.2.2.1).b ih.2.2.2.2) [] Tryz.f211,
  bnd (s := iParserList2FSN (n + 1)) (((((kk108.b ih.1).b ih.2.1).b ih.2.2.1).b ih.2.2.2.1).b ih.2.2.2.2) [(4, .c 27 [.b 0 0 (roL .token), .b 0 1 roI, .b 0 2 roI, .t 1 roS, .t 5 (.own (.base .expr) false true 0)] [(0, 3)] [(0, 0, 0)])] Tryz.f233⟩
theorem iParserExpr_sound : BSound Tryz.prog iParserExprFS := fun w S bb vs Et args x y h => (iParserExprG_sound (siz (α := GPsr) x + 1)).1 w S bb vs Et args x y h
def kk109 := kk108.b iParserExpr_sound
theorem iParserSum_sound : BSound Tryz.prog iParserSumFS := fun w S bb vs Et args x y h => (iParserExprG_sound (siz (α := GPsr) x + 1)).2.1 w S bb vs Et args x y h
def kk110 := kk109.b iParserSum_sound
theorem iParserProduct_sound : BSound Tryz.prog iParserProductFS := fun w S bb vs Et args x y h => (iParserExprG_sound (siz (α := GPsr) x + 1)).2.2.1 w S bb vs Et args x y h
def kk111 := kk110.b iParserProduct_sound
theorem iParserAtom_sound : BSound Tryz.prog iParserAtomFS := fun w S bb vs Et args x y h => (iParserExprG_sound (siz (α := GPsr) x + 1)).2.2.2.1 w S bb vs Et args x y h
def kk112 := kk111.b iParserAtom_sound
theorem iParserList2_sound : BSound Tryz.prog iParserList2FS := fun w S bb vs Et args x y h => (iParserExprG_sound (siz (α := GPsr) x.1 + 1)).2.2.2.2 w S bb vs Et args x y h
def kk113 := kk112.b iParserList2_sound
theorem iNodeCountG_sound : ∀ n, Sound Tryz.prog (iNodeCountFSN n)
 | 0 => (fun w S args x y h => by cases h)
 | n + 1 =>
  have ih := iNodeCountG_sound n
  snd (s := iNodeCountFSN (n + 1)) (kk113.f ih) [(3, .c 19 [.t 3 roI, .t 7 (roL .expr), .t 8 roI, .t 9 roI] [] [])] Tryz.f148
theorem iNodeCount_sound : Sound Tryz.prog iNodeCountFS := fun w S args x y h => (iNodeCountG_sound (siz (α := GExpr) x + 1)) w S args x y h
def kk114 := kk113.f iNodeCount_sound
theorem iNestingOfG_sound : ∀ n, Sound Tryz.prog (iNestingOfFSN n)
 | 0 => (fun w S args x y h => by cases h)
 | n + 1 =>
  have ih := iNestingOfG_sound n
  snd (s := iNestingOfFSN (n + 1)) (kk114.f ih) [(3, .c 20 [.t 3 roI, .t 7 (roL .expr), .t 8 roI, .t 9 roI] [] [])] Tryz.f149
theorem iNestingOf_sound : Sound Tryz.prog iNestingOfFS := fun w S args x y h => (iNestingOfG_sound (siz (α := GExpr) x + 1)) w S args x y h
def kk115 := kk114.f iNestingOf_sound
def kk116 := kk115.f (s := iIsNodeFS) (snd kk115 [] Tryz.f189)
theorem iAreNodesG_sound : ∀ n, Sound Tryz.prog (iAreNodesFSN n)
 | 0 => (fun w S args x y h => by cases h)
 | n + 1 =>
  have ih := iAreNodesG_sound n
  snd (s := iAreNodesFSN (n + 1)) (kk116.f ih) [(2, .c 18 [.b 1 0 roI, .b 1 1 roI, .b 1 2 roS, .b 1 3 (roL .expr), .t 6 (roL .expr), .t 7 roI, .t 8 roI] [(1, 4)] [(1, 1, 0)])] Tryz.f150
theorem iAreNodes_sound : Sound Tryz.prog iAreNodesFS := fun w S args x y h => (iAreNodesG_sound (siz (α := GExpr) x + 1)) w S args x y h
def kk117 := kk116.f iAreNodes_sound
def kk118 := kk117.f (s := iIsValidExprFS) (snd kk117 [] Tryz.f103)
def kk119 := kk118.f (s := iParseExprFS) (snd kk118 [] Tryz.f69)
def kk120 := kk119.f (s := iErrorValueFS) (snd kk119 [] Tryz.f70)
def kk121 := kk120.f libSplit_sound
def kk122 := kk121.f (s := iSplitByteFS) (snd kk121 [] Tryz.f105)
def kk123 := kk122.f (s := iDataRowFS) (snd kk122 [(4, .c 38 [.t 1 roI, .t 7 (owE .int 0), .t 15 (owE .str 1), .t 16 roI, .t 17 roI] [] [])] Tryz.f106)
theorem iIndexOf_sound : Sound Tryz.prog iIndexOfFS := snd kk123 [(2, .c 19 [.t 1 roS, .t 7 (roL .str), .t 8 roI, .t 9 roI] [] [])] Tryz.f112
def kk124 := kk123.f iIndexOf_sound
def kk125 := kk124.f (s := iAllDistinctFS) (snd kk124 [(2, .c 18 [.t 0 (roL .str), .t 5 (roL .str), .t 6 roI, .t 7 roI] [] [])] Tryz.f157)
def kk126 := kk125.f (s := iAreColumnsFS) (snd kk125 [(2, .c 22 [.t 0 (roL .str), .t 5 (roL .str), .t 6 roI, .t 7 roI] [] [])] Tryz.f108)
def kk127 := kk126.f (s := iIsNumberFS) (snd kk126 [] Tryz.f153)
def kk128 := kk127.f (s := iOriginBeforeFS) (snd kk127 [] Tryz.f194)
def kk129 := kk128.f (s := iIsTableFS) (snd kk128 [(15, .c 77 [.b 1 0 roI, .b 1 1 roI, .b 1 2 roI, .b 1 3 roS, .b 1 4 (roL .val), .b 1 5 (roL .str), .b 1 6 (roL .row), .b 4 0 (roL .int), .b 4 1 (roL .origin), .t 20 (roL .row), .t 21 roI, .t 22 roI, .t 45 (roL .origin), .t 46 roI, .t 47 roI] [(1, 7), (4, 2)] [(1, 1, 0), (4, 4, 0)]), (9, .c 77 [.b 1 0 roI, .b 1 1 roI, .b 1 2 roI, .b 1 3 roS, .b 1 4 (roL .val), .b 1 5 (roL .str), .b 1 6 (roL .row), .b 4 0 (roL .int), .b 4 1 (roL .origin), .t 20 (roL .row), .t 21 roI, .t 22 roI, .t 34 (roL .int), .t 35 roI, .t 36 roI] [(1, 7), (4, 2)] [(1, 1, 0), (4, 4, 0)]), (4, .c 77 [.b 1 0 roI, .b 1 1 roI, .b 1 2 roI, .b 1 3 roS, .b 1 4 (roL .val), .b 1 5 (roL .str), .b 1 6 (roL .row), .t 20 (roL .row), .t 21 roI, .t 22 roI] [(1, 7)] [(1, 1, 0)])] Tryz.f155)
end
end Go.Proofs.YtgfjbogcidlaeaaGreatDoor
