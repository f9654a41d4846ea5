import Derived.Test.YtgfjbogcidlaeaaGreatDoorHandL
/- The functions compute their models, by gen.py. -/
namespace Go.Proofs.YtgfjbogcidlaeaaGreatDoor
noncomputable section
open Go.Abs Go.Proofs
set_option maxRecDepth 100000
def kk1 := kk0.f (s := szCellFS) (snd kk0 [] Tryz.f34)
def kk2 := kk1.f (s := szCellSFS) (snd kk1 [(5, .c 27 [.t 0 (roL .cell), .t 1 roI, .t 5 roI] [] [])] Tryz.f16)
def kk3 := kk2.f (s := szNotebookFS) (snd kk2 [] Tryz.f5)
def kk4 := kk3.f (s := sL1InFS) (snd kk3 [] Tryz.f63)
def kk5 := kk4.f (s := sIsPrintableFS) (snd kk4 [(2, .c 23 [.t 0 roS, .t 3 roI] [] [])] Tryz.f64)
def kk6 := kk5.f (s := sL2ShapeFS) (snd kk5 [(2, .c 45 [.t 0 roS, .t 3 roI] [] [])] Tryz.f99)
def kk7 := kk6.f (s := sL1HasFS) (snd kk6 [(2, .c 18 [.t 0 (roL .str), .t 1 roS, .t 5 roI] [] [])] Tryz.f138)
def kk8 := kk7.f (s := sL2ReservedFS) (snd kk7 [] Tryz.f139)
def kk9 := kk8.f (s := sIsReservedFS) (snd kk8 [] Tryz.f100)
def kk10 := kk9.f (s := sIsValidNameFS) (snd kk9 [] Tryz.f65)
def kk11 := kk10.f (s := sIsValidCellFS) (snd kk10 [] Tryz.f38)
def kk12 := kk11.f (s := sCellIndexFS) (snd kk11 [(2, .c 22 [.t 1 roI, .b 2 0 (roL .cell), .t 5 roI] [(2, 1)] [(2, 2, 0)])] Tryz.f39)
def kk13 := kk12.f (s := sIsValidNotebookFS) (snd kk12 [(2, .c 34 [.b 1 0 (roL .cell), .t 3 roI] [(1, 1)] [(1, 1, 0)])] Tryz.f19)
def kk14 := kk13.f (s := sFormatIntFS) (snd kk13 [(5, .c 31 [.t 0 roI, .t 3 (roE .bool), .t 4 roS] [] [])] Tryz.f29)
def kk15 := kk14.f (s := sL1ReadFS) (snd kk14 [(9, .c 63 [.t 0 roS, .t 6 (roE .bool), .t 7 roS, .t 8 roI, .t 9 roI] [] [])] Tryz.f180)
def kk16 := kk15.f (s := sParseIntFS) (snd kk15 [] Tryz.f130)
def kk17 := kk16.f (s := sIsValidTextFS) (snd kk16 [(2, .c 29 [.t 0 roS, .t 3 roI] [] [])] Tryz.f132)
def kk18 := kk17.f (s := sL9LetterFS) (snd kk17 [] Tryz.f171)
def kk19 := kk18.f (s := sL9DigitFS) (snd kk18 [] Tryz.f172)
def kk20 := kk19.f (s := sL9SymbolFS) (snd kk19 [] Tryz.f173)
def kk21 := kk20.f (s := sL9NextFS) (snd kk20 [(7, .c 136 [.t 0 roS, .t 1 roI, .b 4 0 roI, .b 4 1 roI, .b 4 2 roI, .b 4 3 roS, .b 6 0 roI, .b 6 1 roI, .b 6 2 roI, .b 6 3 roS, .t 7 roI] [(4, 4), (6, 4)] [(4, 4, 0), (6, 6, 0)]), (14, .c 136 [.t 0 roS, .t 1 roI, .b 4 0 roI, .b 4 1 roI, .b 4 2 roI, .b 4 3 roS, .b 6 0 roI, .b 6 1 roI, .b 6 2 roI, .b 6 3 roS, .t 7 roI] [(4, 4), (6, 4)] [(4, 4, 0), (6, 6, 0)]), (23, .c 136 [.t 0 roS, .t 1 roI, .b 4 0 roI, .b 4 1 roI, .b 4 2 roI, .b 4 3 roS, .b 6 0 roI, .b 6 1 roI, .b 6 2 roI, .b 6 3 roS, .t 7 roI] [(4, 4), (6, 4)] [(4, 4, 0), (6, 6, 0)])] Tryz.f122)
def kk22 := kk21.f (s := sTokenizeFS) (snd kk21 [(5, .c 46 [.t 0 roS, .t 4 (owE .token 0), .t 5 roI] [] [])] Tryz.f87)
def kk23 := kk22.f (s := sIsSymbolFS) (snd kk22 [] Tryz.f174)
def kk24 := kk23.f (s := sIsKeywordFS) (snd kk23 [] Tryz.f175)
def kk25 := kk24.b (s := sL11SeesFS) (bnd kk24 [] Tryz.f123)
def kk26 := kk25.b (s := sL11FailFS) (bnd kk25 [] Tryz.f89)
def kk27 := kk26.b (s := sL11NameFS) (bnd kk26 [] Tryz.f124)
def kk28 := kk27.b (s := sL11TakeFS) (bnd kk27 [] Tryz.f125)
def kk29 := kk28.s (s := sL10OpFS) (ssd kk28 [] Tryz.f177)
def kk30 := kk29.f (s := sArgumentCountFS) (snd kk29 [] Tryz.f207)
def kk31 := kk30.f (s := sL10NumFS) (snd kk30 [] Tryz.f258)
def kk32 := kk31.f (s := sL10NameFS) (snd kk31 [] Tryz.f259)
theorem sL11ExprG_sound : ∀ n, BSound Tryz.prog (sL11ExprFSN n) /\ BSound Tryz.prog (sL11CompareFSN n) /\ BSound Tryz.prog (sL11SumFSN n) /\ BSound Tryz.prog (sL11ProductFSN n) /\ BSound Tryz.prog (sL11AtomFSN n) /\ BSound Tryz.prog (sL11ArgsFSN n)
 | 0 => ⟨(fun w S bb vs Et args x y h => by cases h), (fun w S bb vs Et args x y h => by cases h), (fun w S bb vs Et args x y h => by cases h), (fun w S bb vs Et args x y h => by cases h), (fun w S bb vs Et args x y h => by cases h), (fun w S bb vs Et args x y h => by cases h)⟩
 | n + 1 =>
  have ih := sL11ExprG_sound n
  ⟨bnd (s := sL11ExprFSN (n + 1)) ((((((kk32.b ih.1).b ih.2.1).b ih.2.2.1).b ih.2.2.2.1).b ih.2.2.2.2.1).b ih.2.2.2.2.2) [] Tryz.f88,
  bnd (s := sL11CompareFSN (n + 1)) ((((((kk32.b ih.1).b ih.2.1).b ih.2.2.1).b ih.2.2.2.1).b ih.2.2.2.2.1).b ih.2.2.2.2.2) [] Tryz.f126,
  bnd (s := sL11SumFSN (n + 1)) ((((((kk32.b ih.1).b ih.2.1).b ih.2.2.1).b ih.2.2.2.1).b ih.2.2.2.2.1).b ih.2.2.2.2.2) [(2, .c 29 [.b 0 0 (roL .token), .b 0 1 roI, .b 0 2 roI, .b 0 3 roI, .b 2 0 roI, .b 2 1 roI, .b 2 2 roS, .b 2 3 (owE .expr 0), .b 3 0 roI, .b 3 1 roI, .b 3 2 roS, .b 3 3 (roL .expr)] [(0, 4), (2, 4), (3, 4)] [(0, 0, 0), (2, 2, 0), (3, 3, 0)])] Tryz.f176,
  bnd (s := sL11ProductFSN (n + 1)) ((((((kk32.b ih.1).b ih.2.1).b ih.2.2.1).b ih.2.2.2.1).b ih.2.2.2.2.1).b ih.2.2.2.2.2) [(2, .c 21 [.b 0 0 (roL .token), .b 0 1 roI, .b 0 2 roI, .b 0 3 roI, .b 2 0 roI, .b 2 1 roI, .b 2 2 roS, .b 2 3 (owE .expr 0), .b 3 0 roI, .b 3 1 roI, .b 3 2 roS, .b 3 3 (roL .expr)] [(0, 4), (2, 4), (3, 4)] [(0, 0, 0), (2, 2, 0), (3, 3, 0)])] Tryz.f206,
  bnd (s := sL11AtomFSN (n + 1)) ((((((kk32.b ih.1).b ih.2.1).b ih.2.2.1).b ih.2.2.2.1).b ih.2.2.2.2.1).b ih.2.2.2.2.2) [] Tryz.f231,
  bnd (s := sL11ArgsFSN (n + 1)) ((((((kk32.b ih.1).b ih.2.1).b ih.2.2.1).b ih.2.2.2.1).b ih.2.2.2.2.1).b ih.2.2.2.2.2) [(5, .c 44 [.b 0 0 (roL .token), .b 0 1 roI, .b 0 2 roI, .b 0 3 roI, .t 1 roS, .t 5 (.own (.base .expr) false true 0)] [(0, 4)] [(0, 0, 0)])] Tryz.f260⟩
theorem sL11Expr_sound : BSound Tryz.prog sL11ExprFS := fun w S bb vs Et args x y h => (sL11ExprG_sound (siz (α := GRd) x + 1)).1 w S bb vs Et args x y h
def kk33 := kk32.b sL11Expr_sound
theorem sL11Compare_sound : BSound Tryz.prog sL11CompareFS := fun w S bb vs Et args x y h => (sL11ExprG_sound (siz (α := GRd) x + 1)).2.1 w S bb vs Et args x y h
def kk34 := kk33.b sL11Compare_sound
theorem sL11Sum_sound : BSound Tryz.prog sL11SumFS := fun w S bb vs Et args x y h => (sL11ExprG_sound (siz (α := GRd) x + 1)).2.2.1 w S bb vs Et args x y h
def kk35 := kk34.b sL11Sum_sound
theorem sL11Product_sound : BSound Tryz.prog sL11ProductFS := fun w S bb vs Et args x y h => (sL11ExprG_sound (siz (α := GRd) x + 1)).2.2.2.1 w S bb vs Et args x y h
def kk36 := kk35.b sL11Product_sound
theorem sL11Atom_sound : BSound Tryz.prog sL11AtomFS := fun w S bb vs Et args x y h => (sL11ExprG_sound (siz (α := GRd) x + 1)).2.2.2.2.1 w S bb vs Et args x y h
def kk37 := kk36.b sL11Atom_sound
theorem sL11Args_sound : BSound Tryz.prog sL11ArgsFS := fun w S bb vs Et args x y h => (sL11ExprG_sound (siz (α := GRd) x.1 + 1)).2.2.2.2.2 w S bb vs Et args x y h
def kk38 := kk37.b sL11Args_sound
theorem sL10LeftG_sound : ∀ n, Sound Tryz.prog (sL10LeftFSN n)
 | 0 => (fun w S args x y h => by cases h)
 | n + 1 =>
  have ih := sL10LeftG_sound n
  snd (s := sL10LeftFSN (n + 1)) (kk38.f ih) [(3, .c 27 [.t 1 roI, .b 2 0 roI, .b 2 1 roI, .b 2 2 roS, .b 2 3 (roL .expr), .t 5 roI] [(2, 4)] [(2, 2, 0)])] Tryz.f127
theorem sL10Left_sound : Sound Tryz.prog sL10LeftFS := fun w S args x y h => (sL10LeftG_sound (siz (α := GExpr) x.1 + 1)) w S args x y h
def kk39 := kk38.f sL10Left_sound
def kk40 := kk39.f (s := sL1MaxFS) (snd kk39 [] Tryz.f178)
theorem sNestingOfG_sound : ∀ n, Sound Tryz.prog (sNestingOfFSN n)
 | 0 => (fun w S args x y h => by cases h)
 | n + 1 =>
  have ih := sNestingOfG_sound n
  snd (s := sNestingOfFSN (n + 1)) (kk40.f ih) [(3, .c 22 [.b 1 0 roI, .b 1 1 roI, .b 1 2 roS, .b 1 3 (roL .expr), .t 3 roI, .t 4 roI] [(1, 4)] [(1, 1, 0)])] Tryz.f128
theorem sNestingOf_sound : Sound Tryz.prog sNestingOfFS := fun w S args x y h => (sNestingOfG_sound (siz (α := GExpr) x + 1)) w S args x y h
def kk41 := kk40.f sNestingOf_sound
def kk42 := kk41.f (s := sL10NodeFS) (snd kk41 [] Tryz.f179)
theorem sL10AllG_sound : ∀ n, Sound Tryz.prog (sL10AllFSN n)
 | 0 => (fun w S args x y h => by cases h)
 | n + 1 =>
  have ih := sL10AllG_sound n
  snd (s := sL10AllFSN (n + 1)) (kk42.f ih) [(2, .c 20 [.b 1 0 roI, .b 1 1 roI, .b 1 2 roS, .b 1 3 (roL .expr), .t 3 roI] [(1, 4)] [(1, 1, 0)])] Tryz.f129
theorem sL10All_sound : Sound Tryz.prog sL10AllFS := fun w S args x y h => (sL10AllG_sound (siz (α := GExpr) x + 1)) w S args x y h
def kk43 := kk42.f sL10All_sound
def kk44 := kk43.f (s := sIsValidExprFS) (snd kk43 [] Tryz.f90)
def kk45 := kk44.f (s := sParseExprFS) (snd kk44 [] Tryz.f56)
def kk46 := kk45.f (s := sErrorValueFS) (snd kk45 [] Tryz.f57)
def kk47 := kk46.f (s := sNumberValueFS) (snd kk46 [] Tryz.f58)
def kk48 := kk47.f (s := sL18PartsFS) (snd kk47 [(4, .c 40 [.t 0 roS, .t 3 (owE .str 0), .t 4 roI, .t 5 roI] [] [])] Tryz.f91)
def kk49 := kk48.f (s := sSplitByteFS) (snd kk48 [(4, .c 36 [.t 0 roS, .t 1 (roE .u8), .t 5 (owE .str 0), .t 6 roI, .t 7 roI] [] [])] Tryz.f92)
def kk50 := kk49.f (s := sL3NumberFS) (snd kk49 [] Tryz.f131)
def kk51 := kk50.f (s := sL18RowFS) (snd kk50 [(4, .c 45 [.t 1 roI, .t 6 (owE .int 0), .t 7 (owE .str 1), .t 8 roI] [] [])] Tryz.f93)
def kk52 := kk51.f (s := sAllDistinctFS) (snd kk51 [(2, .c 18 [.t 0 (roL .str), .t 3 roI] [] [])] Tryz.f135)
def kk53 := kk52.f (s := sL3ColumnsFS) (snd kk52 [(2, .c 23 [.t 0 (roL .str), .t 3 roI] [] [])] Tryz.f95)
def kk54 := kk53.f (s := sL3BeforeFS) (snd kk53 [] Tryz.f208)
def kk55 := kk54.f (s := sL3AscendingFS) (snd kk54 [(2, .c 41 [.t 0 (roL .origin), .t 3 roI] [] [])] Tryz.f183)
def kk56 := kk55.f (s := sL3TableFS) (snd kk55 [(10, .c 55 [.b 1 0 roI, .b 1 1 roI, .b 1 2 roI, .b 1 3 roS, .b 1 4 (roL .val), .b 1 5 (roL .str), .b 1 6 (roL .row), .t 3 roI, .b 4 0 (roL .int), .b 4 1 (roL .origin), .t 5 roI] [(1, 7), (4, 2)] [(1, 1, 0), (4, 4, 0)]), (4, .c 55 [.b 1 0 roI, .b 1 1 roI, .b 1 2 roI, .b 1 3 roS, .b 1 4 (roL .val), .b 1 5 (roL .str), .b 1 6 (roL .row), .t 3 roI] [(1, 7)] [(1, 1, 0)])] Tryz.f134)
theorem sIsValidValue_den (n : Int) (step : Int) (text : Str) (columns : List Str) (rows : List GRow) : denF kk56.1 [] Tryz.f94 sIsValidValueFS.ps sIsValidValueFS.rs sIsValidValueFS.ex (⟨5, n, step, text, [], columns, rows⟩ : GVal) = sIsValidValueP ⟨5, n, step, text, [], columns, rows⟩ := by kernel_rfl
theorem sIsValidValue_sound : Sound Tryz.prog sIsValidValueFS :=
 Sound.weaken (f := fun x => denF kk56.1 [] Tryz.f94 sIsValidValueFS.ps sIsValidValueFS.rs sIsValidValueFS.ex x) (sound_of_den kk56.2 mixed_ok [] (fn := Tryz.f94) (by kernel_rfl) fun x => rfl) fun x y h => by
  obtain ⟨kind, n, step, text, list, columns, rows⟩ := x
  cases hk : ((kind == 5) && list.isEmpty) with
  | false =>
   have h : (bif ((kind == 5) && list.isEmpty) then sIsValidValueP ⟨kind, n, step, text, list, columns, rows⟩ else none) = some y := h
   rw [hk] at h; cases h
  | true =>
   have h : (bif ((kind == 5) && list.isEmpty) then sIsValidValueP ⟨kind, n, step, text, list, columns, rows⟩ else none) = some y := h
   rw [hk] at h
   simp only [Bool.and_eq_true, beq_iff_eq, List.isEmpty_iff] at hk
   obtain ⟨h_kind, h_list⟩ := hk
   subst kind list
   exact (sIsValidValue_den n step text columns rows).trans h
def kk57 := kk56.f sIsValidValue_sound
def kk58 := kk57.f (s := sParseDataFS) (snd kk57 [(4, .c 48 [.b 2 0 roI, .b 2 1 roI, .b 2 2 roI, .b 2 3 roS, .b 2 4 (owE .val 0), .b 2 5 (owE .str 1), .b 2 6 (owE .row 3), .t 4 (owE .str 4), .b 5 0 roI, .b 5 1 roI, .b 5 2 roI, .b 5 3 roS, .b 5 4 (owE .val 6), .b 5 5 (owE .str 7), .b 5 6 (owE .row 8), .t 6 roI] [(2, 7), (5, 7)] [(2, 2, 0), (5, 5, 0)])] Tryz.f59)
def kk59 := kk58.f (s := sDataErrorFS) (snd kk58 [(6, .c 40 [.t 3 (owE .str 0), .t 4 (owE .str 1), .t 5 roI] [] [])] Tryz.f60)
def kk60 := kk59.f (s := sL3RowFS) (snd kk59 [] Tryz.f136)
theorem sL3CopyG_sound : ∀ n, Sound Tryz.prog (sL3CopyFSN n)
 | 0 => (fun w S args x y h => by cases h)
 | n + 1 =>
  have ih := sL3CopyG_sound n
  snd (s := sL3CopyFSN (n + 1)) (kk60.f ih) [(7, .c 56 [.b 1 0 roI, .b 1 1 roI, .b 1 2 roI, .b 1 3 roS, .b 1 4 (roL .val), .b 1 5 (roL .str), .b 1 6 (roL .row), .b 2 0 roI, .b 2 1 roI, .b 2 2 roI, .b 2 3 roS, .b 2 4 (owE .val 0), .b 2 5 (owE .str 4), .b 2 6 (owE .row 5), .b 3 0 roI, .b 3 1 roI, .b 3 2 roI, .b 3 3 roS, .b 3 4 (owE .val 6), .b 3 5 (owE .str 7), .b 3 6 (owE .row 8), .t 5 roI] [(1, 7), (2, 7), (3, 7)] [(1, 1, 0), (2, 2, 0), (3, 3, 0)]), (3, .c 56 [.b 1 0 roI, .b 1 1 roI, .b 1 2 roI, .b 1 3 roS, .b 1 4 (roL .val), .b 1 5 (roL .str), .b 1 6 (roL .row), .b 2 0 roI, .b 2 1 roI, .b 2 2 roI, .b 2 3 roS, .b 2 4 (owE .val 0), .b 2 5 (owE .str 4), .b 2 6 (owE .row 5), .b 3 0 roI, .b 3 1 roI, .b 3 2 roI, .b 3 3 roS, .b 3 4 (owE .val 6), .b 3 5 (owE .str 7), .b 3 6 (owE .row 8), .t 4 roI] [(1, 7), (2, 7), (3, 7)] [(1, 1, 0), (2, 2, 0), (3, 3, 0)])] Tryz.f96
theorem sL3Copy_sound : Sound Tryz.prog sL3CopyFS := fun w S args x y h => (sL3CopyG_sound (siz (α := GVal) x + 1)) w S args x y h
def kk61 := kk60.f sL3Copy_sound
def kk62 := kk61.f (s := sSourceTableFS) (snd kk61 [(5, .c 39 [.t 0 roI, .b 4 0 roI, .b 4 1 roI, .b 4 2 roI, .b 4 3 roS, .b 4 4 (owE .val 0), .b 4 5 (owE .str 1), .b 4 6 (owE .row 2), .b 5 0 roI, .b 5 1 roI, .b 5 2 roI, .b 5 3 roS, .b 5 4 (owE .val 6), .b 5 5 (owE .str 7), .b 5 6 (owE .row 8), .t 6 roI] [(4, 7), (5, 7)] [(4, 4, 0), (5, 5, 0)])] Tryz.f61)
def kk63 := kk62.f (s := sCompileCellFS) (snd kk62 [] Tryz.f35)
def kk64 := kk63.s (s := sCompileAllFS) (ssd kk63 [(5, .c 27 [.b 1 0 (roL .cell), .t 3 (.own (.base .part) false true 0), .t 4 roI] [(1, 1)] [(1, 1, 0)])] Tryz.f17)
def kk65 := kk64.f (s := sL1HasIntFS) (snd kk64 [(2, .c 18 [.t 0 (roL .int), .t 1 roI, .t 5 roI] [] [])] Tryz.f36)
end
end Go.Proofs.YtgfjbogcidlaeaaGreatDoor
