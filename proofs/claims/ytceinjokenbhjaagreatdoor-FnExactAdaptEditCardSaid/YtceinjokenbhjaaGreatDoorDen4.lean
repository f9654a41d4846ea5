/- The functions compute their models, by gen.py. -/
import Derived.Test.YtceinjokenbhjaaGreatDoorSrtWalk
namespace Go.Proofs.YtceinjokenbhjaaGreatDoor
open Go.Abs Go.Proofs
set_option maxRecDepth 100000
theorem iFreeNames_callable : callable Tryz.prog 31 = true := by kernel_rfl
theorem iIsCaptured_callable : callable Tryz.prog 55 = true := by kernel_rfl
theorem iCopyExpr_callable : callable Tryz.prog 93 = true := by kernel_rfl
theorem iCopyExpr_den (riCopyExpr : GExpr → Option (GExpr)) (a : GExpr) : denF { tt := tt, fs := [{ fid := 93, ps := [⟨true, .base .expr⟩], rs := [⟨true, .base .expr⟩], ex := true, fn := fun x => riCopyExpr x }] } [(3, { n := 29, its := [.b 2 0 (.ro (.base .int)), .b 2 1 (.ro (.base .int)), .b 2 2 (.ro (.base .str)), .b 2 3 (.own (.base .expr) true true 0), .b 3 0 (.ro (.base .int)), .b 3 1 (.ro (.base .int)), .b 3 2 (.ro (.base .str)), .b 3 3 (.own (.base .expr) true true 4), .t 14 (.ro (.list (.base .expr))), .t 15 (.ro (.base .int)), .t 16 (.ro (.base .int))], boxes := [(2, 4), (3, 4)], ptrs := [(2, 2, 0), (3, 3, 0)] })] Tryz.f93 iCopyExprFS.ps iCopyExprFS.rs iCopyExprFS.ex a = iCopyExprB riCopyExpr a := by kernel_rfl
theorem iCopyExprG_sound : ∀ n, Sound Tryz.prog (iCopyExprFSN n)
  | 0 => (fun w S args x y h => by cases h)
  | n + 1 => by
    have ih := iCopyExprG_sound n
    exact sound_of_den (s := iCopyExprFSN (n + 1)) (E := { tt := tt, fs := [iCopyExprFSN n] }) (.cons iCopyExpr_callable ih (.nil tt_ok)) mixed_ok [(3, { n := 29, its := [.b 2 0 (.ro (.base .int)), .b 2 1 (.ro (.base .int)), .b 2 2 (.ro (.base .str)), .b 2 3 (.own (.base .expr) true true 0), .b 3 0 (.ro (.base .int)), .b 3 1 (.ro (.base .int)), .b 3 2 (.ro (.base .str)), .b 3 3 (.own (.base .expr) true true 4), .t 14 (.ro (.list (.base .expr))), .t 15 (.ro (.base .int)), .t 16 (.ro (.base .int))], boxes := [(2, 4), (3, 4)], ptrs := [(2, 2, 0), (3, 3, 0)] })] (fn := Tryz.f93) (by kernel_rfl) fun x => iCopyExpr_den _ x
theorem iCopyExpr_sound : Sound Tryz.prog iCopyExprFS := fun w S args x y h => (iCopyExprG_sound (siz (α := GExpr) x + 1)) w S args x y h
theorem iRenamed_callable : callable Tryz.prog 56 = true := by kernel_rfl
theorem iRenamed_den (riRenamed : GExpr → Str → Str → Option (GExpr)) (a : GExpr) (b : Str) (c : Str) : denF { tt := tt, fs := [iCopyExprFS, { fid := 56, ps := [⟨true, .base .expr⟩, ⟨false, .base .str⟩, ⟨false, .base .str⟩], rs := [⟨true, .base .expr⟩], ex := true, fn := fun x => riRenamed x.1 x.2.1 x.2.2 }] } [(6, { n := 74, its := [.t 1 (.ro (.base .str)), .t 2 (.ro (.base .str)), .b 6 0 (.ro (.base .int)), .b 6 1 (.ro (.base .int)), .b 6 2 (.ro (.base .str)), .b 6 3 (.own (.base .expr) true true 0), .b 7 0 (.ro (.base .int)), .b 7 1 (.ro (.base .int)), .b 7 2 (.ro (.base .str)), .b 7 3 (.own (.base .expr) true true 1), .t 8 (.ro (.base .bool)), .t 44 (.ro (.list (.base .expr))), .t 45 (.ro (.base .int)), .t 46 (.ro (.base .int))], boxes := [(6, 4), (7, 4)], ptrs := [(6, 6, 0), (7, 7, 0)] })] Tryz.f56 iRenamedFS.ps iRenamedFS.rs iRenamedFS.ex (a, b, c) = iRenamedB riRenamed a b c := by kernel_rfl
theorem iRenamedG_sound : ∀ n, Sound Tryz.prog (iRenamedFSN n)
  | 0 => (fun w S args x y h => by cases h)
  | n + 1 => by
    have ih := iRenamedG_sound n
    exact sound_of_den (s := iRenamedFSN (n + 1)) (E := { tt := tt, fs := [iCopyExprFS, iRenamedFSN n] }) (.cons iCopyExpr_callable iCopyExpr_sound (.cons iRenamed_callable ih (.nil tt_ok))) mixed_ok [(6, { n := 74, its := [.t 1 (.ro (.base .str)), .t 2 (.ro (.base .str)), .b 6 0 (.ro (.base .int)), .b 6 1 (.ro (.base .int)), .b 6 2 (.ro (.base .str)), .b 6 3 (.own (.base .expr) true true 0), .b 7 0 (.ro (.base .int)), .b 7 1 (.ro (.base .int)), .b 7 2 (.ro (.base .str)), .b 7 3 (.own (.base .expr) true true 1), .t 8 (.ro (.base .bool)), .t 44 (.ro (.list (.base .expr))), .t 45 (.ro (.base .int)), .t 46 (.ro (.base .int))], boxes := [(6, 4), (7, 4)], ptrs := [(6, 6, 0), (7, 7, 0)] })] (fn := Tryz.f56) (by kernel_rfl) fun x => iRenamed_den _ x.1 x.2.1 x.2.2
theorem iRenamed_sound : Sound Tryz.prog iRenamedFS := fun w S args x y h => (iRenamedG_sound (siz (α := GExpr) x.1 + 1)) w S args x y h
theorem iRenameFree_callable : callable Tryz.prog 32 = true := by kernel_rfl
theorem iRenameFree_den (a : GExpr) (b : Str) (c : Str) : denF { tt := tt, fs := [iIsValidExprFS, iIsValidNameFS, iIsCapturedFS, iRenamedFS] } [] Tryz.f32 iRenameFreeFS.ps iRenameFreeFS.rs iRenameFreeFS.ex (a, b, c) = iRenameFree a b c := by kernel_rfl
theorem iRenameFree_sound : Sound Tryz.prog iRenameFreeFS :=
  sound_of_den (E := { tt := tt, fs := [iIsValidExprFS, iIsValidNameFS, iIsCapturedFS, iRenamedFS] }) (.cons iIsValidExpr_callable iIsValidExpr_sound (.cons iIsValidName_callable iIsValidName_sound (.cons iIsCaptured_callable iIsCaptured_sound (.cons iRenamed_callable iRenamed_sound (.nil tt_ok))))) mixed_ok [] (fn := Tryz.f32) (by kernel_rfl) fun x => iRenameFree_den x.1 x.2.1 x.2.2
theorem libItoa_callable : callable Tryz.prog 130 = true := by kernel_rfl
theorem iFormatInt_callable : callable Tryz.prog 94 = true := by kernel_rfl
theorem iFormatInt_den (a : Int) : denF { tt := tt, fs := [libItoaFS] } [] Tryz.f94 iFormatIntFS.ps iFormatIntFS.rs iFormatIntFS.ex a = iFormatInt a := by kernel_rfl
theorem iFormatInt_sound : Sound Tryz.prog iFormatIntFS :=
  sound_of_den (E := { tt := tt, fs := [libItoaFS] }) (.cons libItoa_callable libItoa_sound (.nil tt_ok)) mixed_ok [] (fn := Tryz.f94) (by kernel_rfl) fun x => iFormatInt_den x
theorem libJoin_callable : callable Tryz.prog 147 = true := by kernel_rfl
theorem iJoin_callable : callable Tryz.prog 131 = true := by kernel_rfl
theorem iJoin_den (a : List Str) (b : Str) : denF { tt := tt, fs := [libJoinFS] } [] Tryz.f131 iJoinFS.ps iJoinFS.rs iJoinFS.ex (a, b) = iJoin a b := by kernel_rfl
theorem iJoin_sound : Sound Tryz.prog iJoinFS :=
  sound_of_den (E := { tt := tt, fs := [libJoinFS] }) (.cons libJoin_callable libJoin_sound (.nil tt_ok)) mixed_ok [] (fn := Tryz.f131) (by kernel_rfl) fun x => iJoin_den x.1 x.2
theorem iLevelOf_callable : callable Tryz.prog 96 = true := by kernel_rfl
theorem iLevelOf_den (a : GExpr) : denF { tt := tt, fs := [] } [] Tryz.f96 iLevelOfFS.ps iLevelOfFS.rs iLevelOfFS.ex a = iLevelOf a := by kernel_rfl
theorem iLevelOf_sound : Sound Tryz.prog iLevelOfFS :=
  sound_of_den (E := { tt := tt, fs := [] }) (.nil tt_ok) mixed_ok [] (fn := Tryz.f96) (by kernel_rfl) fun x => iLevelOf_den x
theorem iSource_callable : callable Tryz.prog 57 = true := by kernel_rfl
theorem iSources_callable : callable Tryz.prog 95 = true := by kernel_rfl
theorem iEnclosed_callable : callable Tryz.prog 97 = true := by kernel_rfl
theorem iSource_den (riSource : GExpr → Option (Str)) (riSources : (List GExpr) → Option (Str)) (riEnclosed : GExpr → Int → Option (Str)) (a : GExpr) : denF { tt := tt, fs := [iOpSymbolFS, iFormatIntFS, iLevelOfFS, iJoinFS, { fid := 57, ps := [⟨true, .base .expr⟩], rs := [⟨false, .base .str⟩], ex := true, fn := fun x => riSource x }, { fid := 95, ps := [⟨false, .list (.base .expr)⟩], rs := [⟨false, .base .str⟩], ex := true, fn := fun x => riSources x }, { fid := 97, ps := [⟨true, .base .expr⟩, ⟨false, .base .int⟩], rs := [⟨false, .base .str⟩], ex := true, fn := fun x => riEnclosed x.1 x.2 }] } [] Tryz.f57 iSourceFS.ps iSourceFS.rs iSourceFS.ex a = iSourceB riSource riSources riEnclosed a := by kernel_rfl
theorem iSources_den (riSource : GExpr → Option (Str)) (riSources : (List GExpr) → Option (Str)) (riEnclosed : GExpr → Int → Option (Str)) (a : List GExpr) : denF { tt := tt, fs := [iOpSymbolFS, iFormatIntFS, iLevelOfFS, iJoinFS, { fid := 57, ps := [⟨true, .base .expr⟩], rs := [⟨false, .base .str⟩], ex := true, fn := fun x => riSource x }, { fid := 95, ps := [⟨false, .list (.base .expr)⟩], rs := [⟨false, .base .str⟩], ex := true, fn := fun x => riSources x }, { fid := 97, ps := [⟨true, .base .expr⟩, ⟨false, .base .int⟩], rs := [⟨false, .base .str⟩], ex := true, fn := fun x => riEnclosed x.1 x.2 }] } [(3, { n := 21, its := [.t 3 (.own (.base .str) true true 0), .t 7 (.ro (.list (.base .expr))), .t 8 (.ro (.base .int)), .t 9 (.ro (.base .int))], boxes := [], ptrs := [] })] Tryz.f95 iSourcesFS.ps iSourcesFS.rs iSourcesFS.ex a = iSourcesB riSource riSources riEnclosed a := by kernel_rfl
theorem iEnclosed_den (riSource : GExpr → Option (Str)) (riSources : (List GExpr) → Option (Str)) (riEnclosed : GExpr → Int → Option (Str)) (a : GExpr) (b : Int) : denF { tt := tt, fs := [iOpSymbolFS, iFormatIntFS, iLevelOfFS, iJoinFS, { fid := 57, ps := [⟨true, .base .expr⟩], rs := [⟨false, .base .str⟩], ex := true, fn := fun x => riSource x }, { fid := 95, ps := [⟨false, .list (.base .expr)⟩], rs := [⟨false, .base .str⟩], ex := true, fn := fun x => riSources x }, { fid := 97, ps := [⟨true, .base .expr⟩, ⟨false, .base .int⟩], rs := [⟨false, .base .str⟩], ex := true, fn := fun x => riEnclosed x.1 x.2 }] } [] Tryz.f97 iEnclosedFS.ps iEnclosedFS.rs iEnclosedFS.ex (a, b) = iEnclosedB riSource riSources riEnclosed a b := by kernel_rfl
theorem iSourceG_sound : ∀ n, Sound Tryz.prog (iSourceFSN n) ∧ Sound Tryz.prog (iSourcesFSN n) ∧ Sound Tryz.prog (iEnclosedFSN n)
  | 0 => ⟨(fun w S args x y h => by cases h), (fun w S args x y h => by cases h), (fun w S args x y h => by cases h)⟩
  | n + 1 => by
    have ih := iSourceG_sound n
    exact ⟨sound_of_den (s := iSourceFSN (n + 1)) (E := { tt := tt, fs := [iOpSymbolFS, iFormatIntFS, iLevelOfFS, iJoinFS, iSourceFSN n, iSourcesFSN n, iEnclosedFSN n] }) (.cons iOpSymbol_callable iOpSymbol_sound (.cons iFormatInt_callable iFormatInt_sound (.cons iLevelOf_callable iLevelOf_sound (.cons iJoin_callable iJoin_sound (.cons iSource_callable ih.1 (.cons iSources_callable ih.2.1 (.cons iEnclosed_callable ih.2.2 (.nil tt_ok)))))))) mixed_ok [] (fn := Tryz.f57) (by kernel_rfl) fun x => iSource_den _ _ _ x, sound_of_den (s := iSourcesFSN (n + 1)) (E := { tt := tt, fs := [iOpSymbolFS, iFormatIntFS, iLevelOfFS, iJoinFS, iSourceFSN n, iSourcesFSN n, iEnclosedFSN n] }) (.cons iOpSymbol_callable iOpSymbol_sound (.cons iFormatInt_callable iFormatInt_sound (.cons iLevelOf_callable iLevelOf_sound (.cons iJoin_callable iJoin_sound (.cons iSource_callable ih.1 (.cons iSources_callable ih.2.1 (.cons iEnclosed_callable ih.2.2 (.nil tt_ok)))))))) mixed_ok [(3, { n := 21, its := [.t 3 (.own (.base .str) true true 0), .t 7 (.ro (.list (.base .expr))), .t 8 (.ro (.base .int)), .t 9 (.ro (.base .int))], boxes := [], ptrs := [] })] (fn := Tryz.f95) (by kernel_rfl) fun x => iSources_den _ _ _ x, sound_of_den (s := iEnclosedFSN (n + 1)) (E := { tt := tt, fs := [iOpSymbolFS, iFormatIntFS, iLevelOfFS, iJoinFS, iSourceFSN n, iSourcesFSN n, iEnclosedFSN n] }) (.cons iOpSymbol_callable iOpSymbol_sound (.cons iFormatInt_callable iFormatInt_sound (.cons iLevelOf_callable iLevelOf_sound (.cons iJoin_callable iJoin_sound (.cons iSource_callable ih.1 (.cons iSources_callable ih.2.1 (.cons iEnclosed_callable ih.2.2 (.nil tt_ok)))))))) mixed_ok [] (fn := Tryz.f97) (by kernel_rfl) fun x => iEnclosed_den _ _ _ x.1 x.2⟩
theorem iSource_sound : Sound Tryz.prog iSourceFS := fun w S args x y h => (iSourceG_sound (siz (α := GExpr) x + 1)).1 w S args x y h
theorem iFormatExpr_callable : callable Tryz.prog 33 = true := by kernel_rfl
theorem iFormatExpr_den (a : GExpr) : denF { tt := tt, fs := [iIsValidExprFS, iSourceFS] } [] Tryz.f33 iFormatExprFS.ps iFormatExprFS.rs iFormatExprFS.ex a = iFormatExpr a := by kernel_rfl
theorem iFormatExpr_sound : Sound Tryz.prog iFormatExprFS :=
  sound_of_den (E := { tt := tt, fs := [iIsValidExprFS, iSourceFS] }) (.cons iIsValidExpr_callable iIsValidExpr_sound (.cons iSource_callable iSource_sound (.nil tt_ok))) mixed_ok [] (fn := Tryz.f33) (by kernel_rfl) fun x => iFormatExpr_den x
theorem iAdaptedCode_callable : callable Tryz.prog 17 = true := by kernel_rfl
theorem iAdaptedCode_den (a : Str) (b : Str) (c : Str) : denF { tt := tt, fs := [iParseExprFS, iIndexOfFS, iFreeNamesFS, iRenameFreeFS, iFormatExprFS] } [] Tryz.f17 iAdaptedCodeFS.ps iAdaptedCodeFS.rs iAdaptedCodeFS.ex (a, b, c) = iAdaptedCode a b c := by kernel_rfl
theorem iAdaptedCode_sound : Sound Tryz.prog iAdaptedCodeFS :=
  sound_of_den (E := { tt := tt, fs := [iParseExprFS, iIndexOfFS, iFreeNamesFS, iRenameFreeFS, iFormatExprFS] }) (.cons iParseExpr_callable iParseExpr_sound (.cons iIndexOf_callable iIndexOf_sound (.cons iFreeNames_callable iFreeNames_sound (.cons iRenameFree_callable iRenameFree_sound (.cons iFormatExpr_callable iFormatExpr_sound (.nil tt_ok)))))) mixed_ok [] (fn := Tryz.f17) (by kernel_rfl) fun x => iAdaptedCode_den x.1 x.2.1 x.2.2
theorem iAdaptEdit_callable : callable Tryz.prog 9 = true := by kernel_rfl
theorem iAdaptEdit_den (a : GEdit) (b : List GOp) : denF { tt := tt, fs := [iAdaptedCodeFS] } [(2, { n := 49, its := [.b 2 0 (.ro (.base .int)), .b 2 1 (.ro (.base .int)), .b 2 2 (.ro (.base .int)), .b 2 3 (.ro (.base .int)), .b 2 4 (.ro (.base .int)), .b 2 5 (.ro (.base .str)), .b 2 6 (.ro (.base .str)), .b 2 7 (.ro (.base .int)), .b 4 0 (.ro (.base .int)), .b 4 1 (.ro (.base .int)), .b 4 2 (.ro (.base .int)), .b 4 3 (.ro (.base .int)), .b 4 4 (.ro (.base .int)), .b 4 5 (.ro (.base .str)), .b 4 6 (.ro (.base .str)), .b 4 7 (.ro (.base .int)), .t 7 (.ro (.list (.base .op))), .t 8 (.ro (.base .int)), .t 9 (.ro (.base .int))], boxes := [(2, 8), (4, 8)], ptrs := [(2, 2, 0), (4, 4, 0)] })] Tryz.f9 iAdaptEditFS.ps iAdaptEditFS.rs iAdaptEditFS.ex (a, b) = iAdaptEdit a b := by kernel_rfl
theorem iAdaptEdit_sound : Sound Tryz.prog iAdaptEditFS :=
  sound_of_den (E := { tt := tt, fs := [iAdaptedCodeFS] }) (.cons iAdaptedCode_callable iAdaptedCode_sound (.nil tt_ok)) mixed_ok [(2, { n := 49, its := [.b 2 0 (.ro (.base .int)), .b 2 1 (.ro (.base .int)), .b 2 2 (.ro (.base .int)), .b 2 3 (.ro (.base .int)), .b 2 4 (.ro (.base .int)), .b 2 5 (.ro (.base .str)), .b 2 6 (.ro (.base .str)), .b 2 7 (.ro (.base .int)), .b 4 0 (.ro (.base .int)), .b 4 1 (.ro (.base .int)), .b 4 2 (.ro (.base .int)), .b 4 3 (.ro (.base .int)), .b 4 4 (.ro (.base .int)), .b 4 5 (.ro (.base .str)), .b 4 6 (.ro (.base .str)), .b 4 7 (.ro (.base .int)), .t 7 (.ro (.list (.base .op))), .t 8 (.ro (.base .int)), .t 9 (.ro (.base .int))], boxes := [(2, 8), (4, 8)], ptrs := [(2, 2, 0), (4, 4, 0)] })] (fn := Tryz.f9) (by kernel_rfl) fun x => iAdaptEdit_den x.1 x.2
theorem eqCell_callable : callable Tryz.prog 18 = true := by kernel_rfl
theorem eqCell_den (a : GCell) (b : GCell) : denF { tt := tt, fs := [] } [] Tryz.f18 eqCellFS.ps eqCellFS.rs eqCellFS.ex (a, b) = eqCell a b := by kernel_rfl
theorem eqCell_sound : Sound Tryz.prog eqCellFS :=
  sound_of_den (E := { tt := tt, fs := [] }) (.nil tt_ok) mixed_ok [] (fn := Tryz.f18) (by kernel_rfl) fun x => eqCell_den x.1 x.2
theorem eqEdit_callable : callable Tryz.prog 10 = true := by kernel_rfl
theorem eqEdit_den (a : GEdit) (b : GEdit) : denF { tt := tt, fs := [eqCellFS] } [] Tryz.f10 eqEditFS.ps eqEditFS.rs eqEditFS.ex (a, b) = eqEdit a b := by kernel_rfl
theorem eqEdit_sound : Sound Tryz.prog eqEditFS :=
  sound_of_den (E := { tt := tt, fs := [eqCellFS] }) (.cons eqCell_callable eqCell_sound (.nil tt_ok)) mixed_ok [] (fn := Tryz.f10) (by kernel_rfl) fun x => eqEdit_den x.1 x.2
theorem eqIntS_callable : callable Tryz.prog 34 = true := by kernel_rfl
theorem eqIntS_den (a : List Int) (b : List Int) : denF { tt := tt, fs := [] } [(4, { n := 26, its := [.t 0 (.ro (.list (.base .int))), .t 1 (.ro (.list (.base .int))), .t 5 (.ro (.base .int))], boxes := [], ptrs := [] })] Tryz.f34 eqIntSFS.ps eqIntSFS.rs eqIntSFS.ex (a, b) = eqIntS a b := by kernel_rfl
theorem eqIntS_sound : Sound Tryz.prog eqIntSFS :=
  sound_of_den (E := { tt := tt, fs := [] }) (.nil tt_ok) mixed_ok [(4, { n := 26, its := [.t 0 (.ro (.list (.base .int))), .t 1 (.ro (.list (.base .int))), .t 5 (.ro (.base .int))], boxes := [], ptrs := [] })] (fn := Tryz.f34) (by kernel_rfl) fun x => eqIntS_den x.1 x.2
theorem eqStringS_callable : callable Tryz.prog 133 = true := by kernel_rfl
theorem eqStringS_den (a : List Str) (b : List Str) : denF { tt := tt, fs := [] } [(4, { n := 26, its := [.t 0 (.ro (.list (.base .str))), .t 1 (.ro (.list (.base .str))), .t 5 (.ro (.base .int))], boxes := [], ptrs := [] })] Tryz.f133 eqStringSFS.ps eqStringSFS.rs eqStringSFS.ex (a, b) = eqStringS a b := by kernel_rfl
theorem eqStringS_sound : Sound Tryz.prog eqStringSFS :=
  sound_of_den (E := { tt := tt, fs := [] }) (.nil tt_ok) mixed_ok [(4, { n := 26, its := [.t 0 (.ro (.list (.base .str))), .t 1 (.ro (.list (.base .str))), .t 5 (.ro (.base .int))], boxes := [], ptrs := [] })] (fn := Tryz.f133) (by kernel_rfl) fun x => eqStringS_den x.1 x.2
theorem eqOrigin_callable : callable Tryz.prog 193 = true := by kernel_rfl
theorem eqOrigin_den (a : GOrigin) (b : GOrigin) : denF { tt := tt, fs := [] } [] Tryz.f193 eqOriginFS.ps eqOriginFS.rs eqOriginFS.ex (a, b) = eqOrigin a b := by kernel_rfl
theorem eqOrigin_sound : Sound Tryz.prog eqOriginFS :=
  sound_of_den (E := { tt := tt, fs := [] }) (.nil tt_ok) mixed_ok [] (fn := Tryz.f193) (by kernel_rfl) fun x => eqOrigin_den x.1 x.2
theorem eqOriginS_callable : callable Tryz.prog 171 = true := by kernel_rfl
theorem eqOriginS_den (a : List GOrigin) (b : List GOrigin) : denF { tt := tt, fs := [eqOriginFS] } [(4, { n := 27, its := [.t 0 (.ro (.list (.base .origin))), .t 1 (.ro (.list (.base .origin))), .t 5 (.ro (.base .int))], boxes := [], ptrs := [] })] Tryz.f171 eqOriginSFS.ps eqOriginSFS.rs eqOriginSFS.ex (a, b) = eqOriginS a b := by kernel_rfl
theorem eqOriginS_sound : Sound Tryz.prog eqOriginSFS :=
  sound_of_den (E := { tt := tt, fs := [eqOriginFS] }) (.cons eqOrigin_callable eqOrigin_sound (.nil tt_ok)) mixed_ok [(4, { n := 27, its := [.t 0 (.ro (.list (.base .origin))), .t 1 (.ro (.list (.base .origin))), .t 5 (.ro (.base .int))], boxes := [], ptrs := [] })] (fn := Tryz.f171) (by kernel_rfl) fun x => eqOriginS_den x.1 x.2
theorem eqRow_callable : callable Tryz.prog 148 = true := by kernel_rfl
theorem eqRow_den (a : GRow) (b : GRow) : denF { tt := tt, fs := [eqIntSFS, eqOriginSFS] } [] Tryz.f148 eqRowFS.ps eqRowFS.rs eqRowFS.ex (a, b) = eqRow a b := by kernel_rfl
theorem eqRow_sound : Sound Tryz.prog eqRowFS :=
  sound_of_den (E := { tt := tt, fs := [eqIntSFS, eqOriginSFS] }) (.cons eqIntS_callable eqIntS_sound (.cons eqOriginS_callable eqOriginS_sound (.nil tt_ok))) mixed_ok [] (fn := Tryz.f148) (by kernel_rfl) fun x => eqRow_den x.1 x.2
theorem eqRowS_callable : callable Tryz.prog 134 = true := by kernel_rfl
theorem eqRowS_den (a : List GRow) (b : List GRow) : denF { tt := tt, fs := [eqRowFS] } [(4, { n := 27, its := [.t 0 (.ro (.list (.base .row))), .t 1 (.ro (.list (.base .row))), .t 5 (.ro (.base .int))], boxes := [], ptrs := [] })] Tryz.f134 eqRowSFS.ps eqRowSFS.rs eqRowSFS.ex (a, b) = eqRowS a b := by kernel_rfl
theorem eqRowS_sound : Sound Tryz.prog eqRowSFS :=
  sound_of_den (E := { tt := tt, fs := [eqRowFS] }) (.cons eqRow_callable eqRow_sound (.nil tt_ok)) mixed_ok [(4, { n := 27, its := [.t 0 (.ro (.list (.base .row))), .t 1 (.ro (.list (.base .row))), .t 5 (.ro (.base .int))], boxes := [], ptrs := [] })] (fn := Tryz.f134) (by kernel_rfl) fun x => eqRowS_den x.1 x.2
theorem eqValue_callable : callable Tryz.prog 98 = true := by kernel_rfl
theorem eqValueS_callable : callable Tryz.prog 132 = true := by kernel_rfl
theorem eqValue_den (reqValue : GVal → GVal → Option (Bool)) (reqValueS : (List GVal) → (List GVal) → Option (Bool)) (a : GVal) (b : GVal) : denF { tt := tt, fs := [eqStringSFS, eqRowSFS, { fid := 98, ps := [⟨true, .base .val⟩, ⟨true, .base .val⟩], rs := [⟨false, .base .bool⟩], ex := true, fn := fun x => reqValue x.1 x.2 }, { fid := 132, ps := [⟨false, .list (.base .val)⟩, ⟨false, .list (.base .val)⟩], rs := [⟨false, .base .bool⟩], ex := true, fn := fun x => reqValueS x.1 x.2 }] } [] Tryz.f98 eqValueFS.ps eqValueFS.rs eqValueFS.ex (a, b) = eqValueB reqValue reqValueS a b := by kernel_rfl
theorem eqValueS_den (reqValue : GVal → GVal → Option (Bool)) (reqValueS : (List GVal) → (List GVal) → Option (Bool)) (a : List GVal) (b : List GVal) : denF { tt := tt, fs := [eqStringSFS, eqRowSFS, { fid := 98, ps := [⟨true, .base .val⟩, ⟨true, .base .val⟩], rs := [⟨false, .base .bool⟩], ex := true, fn := fun x => reqValue x.1 x.2 }, { fid := 132, ps := [⟨false, .list (.base .val)⟩, ⟨false, .list (.base .val)⟩], rs := [⟨false, .base .bool⟩], ex := true, fn := fun x => reqValueS x.1 x.2 }] } [(4, { n := 27, its := [.t 0 (.ro (.list (.base .val))), .t 1 (.ro (.list (.base .val))), .t 5 (.ro (.base .int))], boxes := [], ptrs := [] })] Tryz.f132 eqValueSFS.ps eqValueSFS.rs eqValueSFS.ex (a, b) = eqValueSB reqValue reqValueS a b := by kernel_rfl
theorem eqValueG_sound : ∀ n, Sound Tryz.prog (eqValueFSN n) ∧ Sound Tryz.prog (eqValueSFSN n)
  | 0 => ⟨(fun w S args x y h => by cases h), (fun w S args x y h => by cases h)⟩
  | n + 1 => by
    have ih := eqValueG_sound n
    exact ⟨sound_of_den (s := eqValueFSN (n + 1)) (E := { tt := tt, fs := [eqStringSFS, eqRowSFS, eqValueFSN n, eqValueSFSN n] }) (.cons eqStringS_callable eqStringS_sound (.cons eqRowS_callable eqRowS_sound (.cons eqValue_callable ih.1 (.cons eqValueS_callable ih.2 (.nil tt_ok))))) mixed_ok [] (fn := Tryz.f98) (by kernel_rfl) fun x => eqValue_den _ _ x.1 x.2, sound_of_den (s := eqValueSFSN (n + 1)) (E := { tt := tt, fs := [eqStringSFS, eqRowSFS, eqValueFSN n, eqValueSFSN n] }) (.cons eqStringS_callable eqStringS_sound (.cons eqRowS_callable eqRowS_sound (.cons eqValue_callable ih.1 (.cons eqValueS_callable ih.2 (.nil tt_ok))))) mixed_ok [(4, { n := 27, its := [.t 0 (.ro (.list (.base .val))), .t 1 (.ro (.list (.base .val))), .t 5 (.ro (.base .int))], boxes := [], ptrs := [] })] (fn := Tryz.f132) (by kernel_rfl) fun x => eqValueS_den _ _ x.1 x.2⟩
theorem eqValue_sound : Sound Tryz.prog eqValueFS := fun w S args x y h => (eqValueG_sound (siz (α := GVal) x.1 + siz (α := GVal) x.2 + 1)).1 w S args x y h
theorem eqRead_callable : callable Tryz.prog 58 = true := by kernel_rfl
theorem eqRead_den (a : GRead) (b : GRead) : denF { tt := tt, fs := [eqValueFS] } [] Tryz.f58 eqReadFS.ps eqReadFS.rs eqReadFS.ex (a, b) = eqRead a b := by kernel_rfl
theorem eqRead_sound : Sound Tryz.prog eqReadFS :=
  sound_of_den (E := { tt := tt, fs := [eqValueFS] }) (.cons eqValue_callable eqValue_sound (.nil tt_ok)) mixed_ok [] (fn := Tryz.f58) (by kernel_rfl) fun x => eqRead_den x.1 x.2
theorem eqReadS_callable : callable Tryz.prog 35 = true := by kernel_rfl
theorem eqReadS_den (a : List GRead) (b : List GRead) : denF { tt := tt, fs := [eqReadFS] } [(4, { n := 27, its := [.t 0 (.ro (.list (.base .read))), .t 1 (.ro (.list (.base .read))), .t 5 (.ro (.base .int))], boxes := [], ptrs := [] })] Tryz.f35 eqReadSFS.ps eqReadSFS.rs eqReadSFS.ex (a, b) = eqReadS a b := by kernel_rfl
theorem eqReadS_sound : Sound Tryz.prog eqReadSFS :=
  sound_of_den (E := { tt := tt, fs := [eqReadFS] }) (.cons eqRead_callable eqRead_sound (.nil tt_ok)) mixed_ok [(4, { n := 27, its := [.t 0 (.ro (.list (.base .read))), .t 1 (.ro (.list (.base .read))), .t 5 (.ro (.base .int))], boxes := [], ptrs := [] })] (fn := Tryz.f35) (by kernel_rfl) fun x => eqReadS_den x.1 x.2
theorem eqOp_callable : callable Tryz.prog 19 = true := by kernel_rfl
theorem eqOp_den (a : GOp) (b : GOp) : denF { tt := tt, fs := [eqEditFS, eqIntSFS, eqReadSFS] } [] Tryz.f19 eqOpFS.ps eqOpFS.rs eqOpFS.ex (a, b) = eqOp a b := by kernel_rfl
theorem eqOp_sound : Sound Tryz.prog eqOpFS :=
  sound_of_den (E := { tt := tt, fs := [eqEditFS, eqIntSFS, eqReadSFS] }) (.cons eqEdit_callable eqEdit_sound (.cons eqIntS_callable eqIntS_sound (.cons eqReadS_callable eqReadS_sound (.nil tt_ok)))) mixed_ok [] (fn := Tryz.f19) (by kernel_rfl) fun x => eqOp_den x.1 x.2
theorem eqOpS_callable : callable Tryz.prog 11 = true := by kernel_rfl
theorem eqOpS_den (a : List GOp) (b : List GOp) : denF { tt := tt, fs := [eqOpFS] } [(4, { n := 27, its := [.t 0 (.ro (.list (.base .op))), .t 1 (.ro (.list (.base .op))), .t 5 (.ro (.base .int))], boxes := [], ptrs := [] })] Tryz.f11 eqOpSFS.ps eqOpSFS.rs eqOpSFS.ex (a, b) = eqOpS a b := by kernel_rfl
theorem eqOpS_sound : Sound Tryz.prog eqOpSFS :=
  sound_of_den (E := { tt := tt, fs := [eqOpFS] }) (.cons eqOp_callable eqOp_sound (.nil tt_ok)) mixed_ok [(4, { n := 27, its := [.t 0 (.ro (.list (.base .op))), .t 1 (.ro (.list (.base .op))), .t 5 (.ro (.base .int))], boxes := [], ptrs := [] })] (fn := Tryz.f11) (by kernel_rfl) fun x => eqOpS_den x.1 x.2
end Go.Proofs.YtceinjokenbhjaaGreatDoor
