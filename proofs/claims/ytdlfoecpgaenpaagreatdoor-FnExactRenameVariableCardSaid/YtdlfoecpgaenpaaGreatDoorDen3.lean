/- The functions compute their models, by gen.py. -/
import Derived.Test.YtdlfoecpgaenpaaGreatDoorSrtWalk
namespace Go.Proofs.YtdlfoecpgaenpaaGreatDoor
noncomputable section
open Go.Abs Go.Proofs
set_option maxRecDepth 100000
def kk147 := kk146.f iFreeNames_sound
def kk148 := kk147.f (s := iUsesOfFS) (snd kk147 [] Tryz.f47)
def kk149 := kk148.f iIsCaptured_sound
theorem iCopyExprG_sound : ∀ n, Sound Tryz.prog (iCopyExprFSN n)
 | 0 => (fun w S args x y h => by cases h)
 | n + 1 =>
  have ih := iCopyExprG_sound n
  snd (s := iCopyExprFSN (n + 1)) (kk149.f ih) [(3, .c 29 [.b 2 0 roI, .b 2 1 roI, .b 2 2 roS, .b 2 3 (owE .expr 0), .b 3 0 roI, .b 3 1 roI, .b 3 2 roS, .b 3 3 (owE .expr 4), .t 14 (roL .expr), .t 15 roI, .t 16 roI] [(2, 4), (3, 4)] [(2, 2, 0), (3, 3, 0)])] Tryz.f111
theorem iCopyExpr_sound : Sound Tryz.prog iCopyExprFS := fun w S args x y h => (iCopyExprG_sound (siz (α := GExpr) x + 1)) w S args x y h
def kk150 := kk149.f iCopyExpr_sound
theorem iRenamedG_sound : ∀ n, Sound Tryz.prog (iRenamedFSN n)
 | 0 => (fun w S args x y h => by cases h)
 | n + 1 =>
  have ih := iRenamedG_sound n
  snd (s := iRenamedFSN (n + 1)) (kk150.f ih) [(6, .c 74 [.t 1 roS, .t 2 roS, .b 6 0 roI, .b 6 1 roI, .b 6 2 roS, .b 6 3 (owE .expr 0), .b 7 0 roI, .b 7 1 roI, .b 7 2 roS, .b 7 3 (owE .expr 1), .t 8 (roE .bool), .t 44 (roL .expr), .t 45 roI, .t 46 roI] [(6, 4), (7, 4)] [(6, 6, 0), (7, 7, 0)])] Tryz.f83
theorem iRenamed_sound : Sound Tryz.prog iRenamedFS := fun w S args x y h => (iRenamedG_sound (siz (α := GExpr) x.1 + 1)) w S args x y h
def kk151 := kk150.f iRenamed_sound
def kk152 := kk151.f (s := iRenameFreeFS) (snd kk151 [] Tryz.f49)
def kk153 := kk152.f libItoa_sound
def kk154 := kk153.f (s := iFormatIntFS) (snd kk153 [] Tryz.f112)
def kk155 := kk154.f libJoin_sound
def kk156 := kk155.f (s := iJoinFS) (snd kk155 [] Tryz.f141)
def kk157 := kk156.f (s := iLevelOfFS) (snd kk156 [] Tryz.f114)
theorem iSourceG_sound : ∀ n, Sound Tryz.prog (iSourceFSN n) /\ Sound Tryz.prog (iSourcesFSN n) /\ Sound Tryz.prog (iEnclosedFSN n)
 | 0 => ⟨(fun w S args x y h => by cases h), (fun w S args x y h => by cases h), (fun w S args x y h => by cases h)⟩
 | n + 1 =>
  have ih := iSourceG_sound n
  ⟨snd (s := iSourceFSN (n + 1)) (((kk157.f ih.1).f ih.2.1).f ih.2.2) [] Tryz.f84,
  snd (s := iSourcesFSN (n + 1)) (((kk157.f ih.1).f ih.2.1).f ih.2.2) [(3, .c 21 [.t 3 (owE .str 0), .t 7 (roL .expr), .t 8 roI, .t 9 roI] [] [])] Tryz.f113,
  snd (s := iEnclosedFSN (n + 1)) (((kk157.f ih.1).f ih.2.1).f ih.2.2) [] Tryz.f115⟩
theorem iSource_sound : Sound Tryz.prog iSourceFS := fun w S args x y h => (iSourceG_sound (siz (α := GExpr) x + 1)).1 w S args x y h
def kk158 := kk157.f iSource_sound
theorem iSources_sound : Sound Tryz.prog iSourcesFS := fun w S args x y h => (iSourceG_sound (siz (α := List GExpr) x + 1)).2.1 w S args x y h
def kk159 := kk158.f iSources_sound
theorem iEnclosed_sound : Sound Tryz.prog iEnclosedFS := fun w S args x y h => (iSourceG_sound (siz (α := GExpr) x.1 + 1)).2.2 w S args x y h
def kk160 := kk159.f iEnclosed_sound
def kk161 := kk160.f (s := iFormatExprFS) (snd kk160 [] Tryz.f50)
def kk162 := kk161.f (s := iRenameInFS) (snd kk161 [(23, .c 156 [.t 1 roS, .t 2 roS, .t 3 (roE .bool), .b 4 0 (roL .cell), .b 8 0 (owE .cell 0), .b 16 0 (owE .cell 1), .t 17 (roE .bool), .t 96 (roL .part), .t 97 roI, .t 98 roI] [(4, 1), (8, 1), (16, 1)] [(4, 4, 0), (8, 8, 0), (16, 16, 0)]), (10, .c 156 [.t 1 roS, .t 2 roS, .t 3 (roE .bool), .b 4 0 (roL .cell), .b 8 0 (owE .cell 0), .t 10 (roL .part), .t 11 roI, .t 12 (roE .bool), .t 13 (roE .bool), .t 54 (roL .part), .t 55 roI, .t 56 roI] [(4, 1), (8, 1)] [(4, 4, 0), (8, 8, 0)])] Tryz.f23)
def kk163 := kk162.f (s := iRenameVariableFS) (snd kk162 [] Tryz.f7)
def kk164 := kk163.f (s := eqCellFS) (snd kk163 [] Tryz.f51)
def kk165 := kk164.f (s := eqCellSFS) (snd kk164 [(4, .c 27 [.t 0 (roL .cell), .t 1 (roL .cell), .t 5 roI] [] [])] Tryz.f25)
def kk166 := kk165.f (s := eqNotebookFS) (snd kk165 [] Tryz.f8)
def kk167 := kk166.f (s := markTextFS) (snd kk166 [(4, .c 20 [.t 0 roI, .t 3 roS] [] [])] Tryz.f52)
theorem markCellS_msound : MSound Tryz.prog markCellSMS := mnd kk167 [(2, { n := 57, ty := .base .cell, si := 5, sk := 1 })] Tryz.f26
def kk168 := kk167.m markCellS_msound
theorem markNotebook_msound : MSound Tryz.prog markNotebookMS := mnd kk168 [] Tryz.f9
def kk169 := kk168.m markNotebook_msound
def kk170 := kk169.f (s := heldCellSFS) (snd kk169 [(2, .c 69 [.t 0 (roL .cell), .t 1 roI, .t 5 roI] [] [])] Tryz.f27)
def kk171 := kk170.f (s := heldNotebookFS) (snd kk170 [] Tryz.f10)
theorem FnExactRenameVariable_sound : Sound Tryz.prog FnExactRenameVariableFS := snd kk171.tr [] Tryz.f3
end
end Go.Proofs.YtdlfoecpgaenpaaGreatDoor
