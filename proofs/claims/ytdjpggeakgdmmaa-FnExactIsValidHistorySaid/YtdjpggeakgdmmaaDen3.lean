/- The functions compute their models, by gen.py. -/
import Derived.Test.YtdjpggeakgdmmaaDen2
namespace Go.Proofs.Ytdjpggeakgdmmaa
open Go.Abs Go.Proofs
set_option maxRecDepth 100000
theorem toRow_callable : callable Try.prog 190 = true := by kernel_rfl
theorem toRow_den (a : GRow) : denF { tt := tt, fs := [toIntSFS, toOriginSFS] } [] Try.f190 toRowFS.ps toRowFS.rs toRowFS.ex a = toRow a := by kernel_rfl
theorem toRow_sound : Sound Try.prog toRowFS :=
  sound_of_den (E := { tt := tt, fs := [toIntSFS, toOriginSFS] }) (.cons toIntS_callable toIntS_sound (.cons toOriginS_callable toOriginS_sound (.nil tt_ok))) mixed_ok [] (fn := Try.f190) (by kernel_rfl) fun x => toRow_den x
theorem toRowS_callable : callable Try.prog 179 = true := by kernel_rfl
theorem toRowS_den (a : List GRow) : denF { tt := tt, fs := [toRowFS] } [(3, { n := 23, its := [.t 0 (.ro (.list (.base .row))), .t 3 (.own (.base .row) true true 0), .t 4 (.ro (.base .int))], boxes := [], ptrs := [] })] Try.f179 toRowSFS.ps toRowSFS.rs toRowSFS.ex a = toRowS a := by kernel_rfl
theorem toRowS_sound : Sound Try.prog toRowSFS :=
  sound_of_den (E := { tt := tt, fs := [toRowFS] }) (.cons toRow_callable toRow_sound (.nil tt_ok)) mixed_ok [(3, { n := 23, its := [.t 0 (.ro (.list (.base .row))), .t 3 (.own (.base .row) true true 0), .t 4 (.ro (.base .int))], boxes := [], ptrs := [] })] (fn := Try.f179) (by kernel_rfl) fun x => toRowS_den x
theorem iOpBefore_callable : callable Try.prog 52 = true := by kernel_rfl
theorem iOpBefore_den (a : GOp) (b : GOp) : denF { tt := tt, fs := [] } [] Try.f52 iOpBeforeFS.ps iOpBeforeFS.rs iOpBeforeFS.ex (a, b) = iOpBefore a b := by kernel_rfl
theorem iOpBefore_sound : Sound Try.prog iOpBeforeFS :=
  sound_of_den (E := { tt := tt, fs := [] }) (.nil tt_ok) mixed_ok [] (fn := Try.f52) (by kernel_rfl) fun x => iOpBefore_den x.1 x.2
theorem eqStringS_callable : callable Try.prog 181 = true := by kernel_rfl
theorem eqStringS_den (a : List Str) (b : List Str) : denF { tt := tt, fs := [] } [(4, { n := 26, its := [.t 0 (.ro (.list (.base .str))), .t 1 (.ro (.list (.base .str))), .t 5 (.ro (.base .int))], boxes := [], ptrs := [] })] Try.f181 eqStringSFS.ps eqStringSFS.rs eqStringSFS.ex (a, b) = eqStringS a b := by kernel_rfl
theorem eqStringS_sound : Sound Try.prog eqStringSFS :=
  sound_of_den (E := { tt := tt, fs := [] }) (.nil tt_ok) mixed_ok [(4, { n := 26, its := [.t 0 (.ro (.list (.base .str))), .t 1 (.ro (.list (.base .str))), .t 5 (.ro (.base .int))], boxes := [], ptrs := [] })] (fn := Try.f181) (by kernel_rfl) fun x => eqStringS_den x.1 x.2
theorem eqOrigin_callable : callable Try.prog 196 = true := by kernel_rfl
theorem eqOrigin_den (a : GOrigin) (b : GOrigin) : denF { tt := tt, fs := [] } [] Try.f196 eqOriginFS.ps eqOriginFS.rs eqOriginFS.ex (a, b) = eqOrigin a b := by kernel_rfl
theorem eqOrigin_sound : Sound Try.prog eqOriginFS :=
  sound_of_den (E := { tt := tt, fs := [] }) (.nil tt_ok) mixed_ok [] (fn := Try.f196) (by kernel_rfl) fun x => eqOrigin_den x.1 x.2
theorem eqOriginS_callable : callable Try.prog 194 = true := by kernel_rfl
theorem eqOriginS_den (a : List GOrigin) (b : List GOrigin) : denF { tt := tt, fs := [eqOriginFS] } [(4, { n := 27, its := [.t 0 (.ro (.list (.base .origin))), .t 1 (.ro (.list (.base .origin))), .t 5 (.ro (.base .int))], boxes := [], ptrs := [] })] Try.f194 eqOriginSFS.ps eqOriginSFS.rs eqOriginSFS.ex (a, b) = eqOriginS a b := by kernel_rfl
theorem eqOriginS_sound : Sound Try.prog eqOriginSFS :=
  sound_of_den (E := { tt := tt, fs := [eqOriginFS] }) (.cons eqOrigin_callable eqOrigin_sound (.nil tt_ok)) mixed_ok [(4, { n := 27, its := [.t 0 (.ro (.list (.base .origin))), .t 1 (.ro (.list (.base .origin))), .t 5 (.ro (.base .int))], boxes := [], ptrs := [] })] (fn := Try.f194) (by kernel_rfl) fun x => eqOriginS_den x.1 x.2
theorem eqRow_callable : callable Try.prog 191 = true := by kernel_rfl
theorem eqRow_den (a : GRow) (b : GRow) : denF { tt := tt, fs := [eqIntSFS, eqOriginSFS] } [] Try.f191 eqRowFS.ps eqRowFS.rs eqRowFS.ex (a, b) = eqRow a b := by kernel_rfl
theorem eqRow_sound : Sound Try.prog eqRowFS :=
  sound_of_den (E := { tt := tt, fs := [eqIntSFS, eqOriginSFS] }) (.cons eqIntS_callable eqIntS_sound (.cons eqOriginS_callable eqOriginS_sound (.nil tt_ok))) mixed_ok [] (fn := Try.f191) (by kernel_rfl) fun x => eqRow_den x.1 x.2
theorem eqRowS_callable : callable Try.prog 182 = true := by kernel_rfl
theorem eqRowS_den (a : List GRow) (b : List GRow) : denF { tt := tt, fs := [eqRowFS] } [(4, { n := 27, its := [.t 0 (.ro (.list (.base .row))), .t 1 (.ro (.list (.base .row))), .t 5 (.ro (.base .int))], boxes := [], ptrs := [] })] Try.f182 eqRowSFS.ps eqRowSFS.rs eqRowSFS.ex (a, b) = eqRowS a b := by kernel_rfl
theorem eqRowS_sound : Sound Try.prog eqRowSFS :=
  sound_of_den (E := { tt := tt, fs := [eqRowFS] }) (.cons eqRow_callable eqRow_sound (.nil tt_ok)) mixed_ok [(4, { n := 27, its := [.t 0 (.ro (.list (.base .row))), .t 1 (.ro (.list (.base .row))), .t 5 (.ro (.base .int))], boxes := [], ptrs := [] })] (fn := Try.f182) (by kernel_rfl) fun x => eqRowS_den x.1 x.2
theorem sStampVersion_callable : callable Try.prog 54 = true := by kernel_rfl
theorem sStampVersion_den (a : GOp) : denF { tt := tt, fs := [] } [] Try.f54 sStampVersionFS.ps sStampVersionFS.rs sStampVersionFS.ex a = sStampVersion a := by kernel_rfl
theorem sStampVersion_sound : Sound Try.prog sStampVersionFS :=
  sound_of_den (E := { tt := tt, fs := [] }) (.nil tt_ok) mixed_ok [] (fn := Try.f54) (by kernel_rfl) fun x => sStampVersion_den x
theorem iStampVersion_callable : callable Try.prog 55 = true := by kernel_rfl
theorem iStampVersion_den (a : GOp) : denF { tt := tt, fs := [] } [] Try.f55 iStampVersionFS.ps iStampVersionFS.rs iStampVersionFS.ex a = iStampVersion a := by kernel_rfl
theorem iStampVersion_sound : Sound Try.prog iStampVersionFS :=
  sound_of_den (E := { tt := tt, fs := [] }) (.nil tt_ok) mixed_ok [] (fn := Try.f55) (by kernel_rfl) fun x => iStampVersion_den x
theorem sL17Copy_callable : callable Try.prog 114 = true := by kernel_rfl
theorem sL17Copy_den (a : GNotebook) : denF { tt := tt, fs := [] } [] Try.f114 sL17CopyFS.ps sL17CopyFS.rs sL17CopyFS.ex a = sL17Copy a := by kernel_rfl
theorem sL17Copy_sound : Sound Try.prog sL17CopyFS :=
  sound_of_den (E := { tt := tt, fs := [] }) (.nil tt_ok) mixed_ok [] (fn := Try.f114) (by kernel_rfl) fun x => sL17Copy_den x
theorem sNewHistory_callable : callable Try.prog 56 = true := by kernel_rfl
theorem sNewHistory_den (a : GNotebook) : denF { tt := tt, fs := [sIsValidNotebookFS, sL17CopyFS] } [] Try.f56 sNewHistoryFS.ps sNewHistoryFS.rs sNewHistoryFS.ex a = sNewHistory a := by kernel_rfl
theorem sNewHistory_sound : Sound Try.prog sNewHistoryFS :=
  sound_of_den (E := { tt := tt, fs := [sIsValidNotebookFS, sL17CopyFS] }) (.cons sIsValidNotebook_callable sIsValidNotebook_sound (.cons sL17Copy_callable sL17Copy_sound (.nil tt_ok))) mixed_ok [] (fn := Try.f56) (by kernel_rfl) fun x => sNewHistory_den x
theorem iCopyNotebook_callable : callable Try.prog 115 = true := by kernel_rfl
theorem iCopyNotebook_den (a : GNotebook) : denF { tt := tt, fs := [] } [] Try.f115 iCopyNotebookFS.ps iCopyNotebookFS.rs iCopyNotebookFS.ex a = iCopyNotebook a := by kernel_rfl
theorem iCopyNotebook_sound : Sound Try.prog iCopyNotebookFS :=
  sound_of_den (E := { tt := tt, fs := [] }) (.nil tt_ok) mixed_ok [] (fn := Try.f115) (by kernel_rfl) fun x => iCopyNotebook_den x
theorem iNewHistory_callable : callable Try.prog 57 = true := by kernel_rfl
theorem iNewHistory_den (a : GNotebook) : denF { tt := tt, fs := [iIsValidNotebookFS, iCopyNotebookFS] } [] Try.f57 iNewHistoryFS.ps iNewHistoryFS.rs iNewHistoryFS.ex a = iNewHistory a := by kernel_rfl
theorem iNewHistory_sound : Sound Try.prog iNewHistoryFS :=
  sound_of_den (E := { tt := tt, fs := [iIsValidNotebookFS, iCopyNotebookFS] }) (.cons iIsValidNotebook_callable iIsValidNotebook_sound (.cons iCopyNotebook_callable iCopyNotebook_sound (.nil tt_ok))) mixed_ok [] (fn := Try.f57) (by kernel_rfl) fun x => iNewHistory_den x
theorem sL41Seen_callable : callable Try.prog 119 = true := by kernel_rfl
theorem sL41Seen_den (a : List Int) : denF { tt := tt, fs := [sL1InFS] } [(2, { n := 19, its := [.t 0 (.ro (.list (.base .int))), .t 3 (.ro (.base .int))], boxes := [], ptrs := [] })] Try.f119 sL41SeenFS.ps sL41SeenFS.rs sL41SeenFS.ex a = sL41Seen a := by kernel_rfl
theorem sL41Seen_sound : Sound Try.prog sL41SeenFS :=
  sound_of_den (E := { tt := tt, fs := [sL1InFS] }) (.cons sL1In_callable sL1In_sound (.nil tt_ok)) mixed_ok [(2, { n := 19, its := [.t 0 (.ro (.list (.base .int))), .t 3 (.ro (.base .int))], boxes := [], ptrs := [] })] (fn := Try.f119) (by kernel_rfl) fun x => sL41Seen_den x
theorem sCountBy_callable : callable Try.prog 63 = true := by kernel_rfl
theorem sCountBy_den (a : List GOp) (b : Int) : denF { tt := tt, fs := [] } [(3, { n := 23, its := [.t 0 (.ro (.list (.base .op))), .t 1 (.ro (.base .int)), .t 5 (.ro (.base .int)), .t 6 (.ro (.base .int))], boxes := [], ptrs := [] })] Try.f63 sCountByFS.ps sCountByFS.rs sCountByFS.ex (a, b) = sCountBy a b := by kernel_rfl
theorem sCountBy_sound : Sound Try.prog sCountByFS :=
  sound_of_den (E := { tt := tt, fs := [] }) (.nil tt_ok) mixed_ok [(3, { n := 23, its := [.t 0 (.ro (.list (.base .op))), .t 1 (.ro (.base .int)), .t 5 (.ro (.base .int)), .t 6 (.ro (.base .int))], boxes := [], ptrs := [] })] (fn := Try.f63) (by kernel_rfl) fun x => sCountBy_den x.1 x.2
theorem iCountBy_callable : callable Try.prog 65 = true := by kernel_rfl
theorem iCountBy_den (a : List GOp) (b : Int) : denF { tt := tt, fs := [] } [(3, { n := 22, its := [.t 1 (.ro (.base .int)), .t 5 (.ro (.base .int)), .t 8 (.ro (.list (.base .op))), .t 9 (.ro (.base .int)), .t 10 (.ro (.base .int))], boxes := [], ptrs := [] })] Try.f65 iCountByFS.ps iCountByFS.rs iCountByFS.ex (a, b) = iCountBy a b := by kernel_rfl
theorem iCountBy_sound : Sound Try.prog iCountByFS :=
  sound_of_den (E := { tt := tt, fs := [] }) (.nil tt_ok) mixed_ok [(3, { n := 22, its := [.t 1 (.ro (.base .int)), .t 5 (.ro (.base .int)), .t 8 (.ro (.list (.base .op))), .t 9 (.ro (.base .int)), .t 10 (.ro (.base .int))], boxes := [], ptrs := [] })] (fn := Try.f65) (by kernel_rfl) fun x => iCountBy_den x.1 x.2
theorem sL1Max_callable : callable Try.prog 120 = true := by kernel_rfl
theorem sL1Max_den (a : Int) (b : Int) : denF { tt := tt, fs := [] } [] Try.f120 sL1MaxFS.ps sL1MaxFS.rs sL1MaxFS.ex (a, b) = sL1Max a b := by kernel_rfl
theorem sL1Max_sound : Sound Try.prog sL1MaxFS :=
  sound_of_den (E := { tt := tt, fs := [] }) (.nil tt_ok) mixed_ok [] (fn := Try.f120) (by kernel_rfl) fun x => sL1Max_den x.1 x.2
theorem sLastTime_callable : callable Try.prog 67 = true := by kernel_rfl
theorem sLastTime_den (a : List GOp) : denF { tt := tt, fs := [sL1MaxFS] } [(3, { n := 19, its := [.t 0 (.ro (.list (.base .op))), .t 3 (.ro (.base .int)), .t 4 (.ro (.base .int))], boxes := [], ptrs := [] })] Try.f67 sLastTimeFS.ps sLastTimeFS.rs sLastTimeFS.ex a = sLastTime a := by kernel_rfl
theorem sLastTime_sound : Sound Try.prog sLastTimeFS :=
  sound_of_den (E := { tt := tt, fs := [sL1MaxFS] }) (.cons sL1Max_callable sL1Max_sound (.nil tt_ok)) mixed_ok [(3, { n := 19, its := [.t 0 (.ro (.list (.base .op))), .t 3 (.ro (.base .int)), .t 4 (.ro (.base .int))], boxes := [], ptrs := [] })] (fn := Try.f67) (by kernel_rfl) fun x => sLastTime_den x
theorem iLastTime_callable : callable Try.prog 68 = true := by kernel_rfl
theorem iLastTime_den (a : List GOp) : denF { tt := tt, fs := [] } [(3, { n := 18, its := [.t 3 (.ro (.base .int)), .t 6 (.ro (.list (.base .op))), .t 7 (.ro (.base .int)), .t 8 (.ro (.base .int))], boxes := [], ptrs := [] })] Try.f68 iLastTimeFS.ps iLastTimeFS.rs iLastTimeFS.ex a = iLastTime a := by kernel_rfl
theorem iLastTime_sound : Sound Try.prog iLastTimeFS :=
  sound_of_den (E := { tt := tt, fs := [] }) (.nil tt_ok) mixed_ok [(3, { n := 18, its := [.t 3 (.ro (.base .int)), .t 6 (.ro (.list (.base .op))), .t 7 (.ro (.base .int)), .t 8 (.ro (.base .int))], boxes := [], ptrs := [] })] (fn := Try.f68) (by kernel_rfl) fun x => iLastTime_den x
theorem sL1Min_callable : callable Try.prog 183 = true := by kernel_rfl
theorem sL1Min_den (a : Int) (b : Int) : denF { tt := tt, fs := [] } [] Try.f183 sL1MinFS.ps sL1MinFS.rs sL1MinFS.ex (a, b) = sL1Min a b := by kernel_rfl
theorem sL1Min_sound : Sound Try.prog sL1MinFS :=
  sound_of_den (E := { tt := tt, fs := [] }) (.nil tt_ok) mixed_ok [] (fn := Try.f183) (by kernel_rfl) fun x => sL1Min_den x.1 x.2
theorem sL20Put_callable : callable Try.prog 165 = true := by kernel_rfl
theorem sL20Put_den (a : List GCell) (b : Int) (c : GCell) : denF { tt := tt, fs := [sL1MaxFS, sL1MinFS] } [] Try.f165 sL20PutFS.ps sL20PutFS.rs sL20PutFS.ex (a, b, c) = sL20Put a b c := by kernel_rfl
theorem sL20Put_sound : Sound Try.prog sL20PutFS :=
  sound_of_den (E := { tt := tt, fs := [sL1MaxFS, sL1MinFS] }) (.cons sL1Max_callable sL1Max_sound (.cons sL1Min_callable sL1Min_sound (.nil tt_ok))) mixed_ok [] (fn := Try.f165) (by kernel_rfl) fun x => sL20Put_den x.1 x.2.1 x.2.2
theorem sL20Drop_callable : callable Try.prog 166 = true := by kernel_rfl
theorem sL20Drop_den (a : List GCell) (b : Int) : denF { tt := tt, fs := [] } [] Try.f166 sL20DropFS.ps sL20DropFS.rs sL20DropFS.ex (a, b) = sL20Drop a b := by kernel_rfl
theorem sL20Drop_sound : Sound Try.prog sL20DropFS :=
  sound_of_den (E := { tt := tt, fs := [] }) (.nil tt_ok) mixed_ok [] (fn := Try.f166) (by kernel_rfl) fun x => sL20Drop_den x.1 x.2
theorem sL20Cell_callable : callable Try.prog 167 = true := by kernel_rfl
theorem sL20Cell_den (a : GCell) (b : GEdit) : denF { tt := tt, fs := [sIsValidCellFS] } [] Try.f167 sL20CellFS.ps sL20CellFS.rs sL20CellFS.ex (a, b) = sL20Cell a b := by kernel_rfl
theorem sL20Cell_sound : Sound Try.prog sL20CellFS :=
  sound_of_den (E := { tt := tt, fs := [sIsValidCellFS] }) (.cons sIsValidCell_callable sIsValidCell_sound (.nil tt_ok)) mixed_ok [] (fn := Try.f167) (by kernel_rfl) fun x => sL20Cell_den x.1 x.2
theorem sApplyEdit_callable : callable Try.prog 152 = true := by kernel_rfl
theorem sApplyEdit_den (a : GNotebook) (b : GEdit) : denF { tt := tt, fs := [sCellIndexFS, sL1InFS, sIsValidNotebookFS, sL17CopyFS, sIsValidCellFS, sL20PutFS, sL20DropFS, sL20CellFS] } [] Try.f152 sApplyEditFS.ps sApplyEditFS.rs sApplyEditFS.ex (a, b) = sApplyEdit a b := by kernel_rfl
theorem sApplyEdit_sound : Sound Try.prog sApplyEditFS :=
  sound_of_den (E := { tt := tt, fs := [sCellIndexFS, sL1InFS, sIsValidNotebookFS, sL17CopyFS, sIsValidCellFS, sL20PutFS, sL20DropFS, sL20CellFS] }) (.cons sCellIndex_callable sCellIndex_sound (.cons sL1In_callable sL1In_sound (.cons sIsValidNotebook_callable sIsValidNotebook_sound (.cons sL17Copy_callable sL17Copy_sound (.cons sIsValidCell_callable sIsValidCell_sound (.cons sL20Put_callable sL20Put_sound (.cons sL20Drop_callable sL20Drop_sound (.cons sL20Cell_callable sL20Cell_sound (.nil tt_ok))))))))) mixed_ok [] (fn := Try.f152) (by kernel_rfl) fun x => sApplyEdit_den x.1 x.2
end Go.Proofs.Ytdjpggeakgdmmaa
