/- The functions compute their models, by gen.py. -/
import Derived.Test.YtdjpggeakgdmmaaDen2
namespace Go.Proofs.Ytdjpggeakgdmmaa
open Go.Abs Go.Proofs
set_option maxRecDepth 100000
theorem toOpS_callable : callable Try.prog 64 = true := by kernel_rfl
theorem toOpS_den (a : List GOp) : denF { tt := tt, fs := [toOpFS] } [(3, { n := 23, its := [.t 0 (.ro (.list (.base .op))), .t 3 (.own (.base .op) true true 0), .t 4 (.ro (.base .int))], boxes := [], ptrs := [] })] Try.f64 toOpSFS.ps toOpSFS.rs toOpSFS.ex a = toOpS a := by kernel_rfl
theorem toOpS_sound : Sound Try.prog toOpSFS :=
  sound_of_den (E := { tt := tt, fs := [toOpFS] }) (.cons toOp_callable toOp_sound (.nil tt_ok)) mixed_ok [(3, { n := 23, its := [.t 0 (.ro (.list (.base .op))), .t 3 (.own (.base .op) true true 0), .t 4 (.ro (.base .int))], boxes := [], ptrs := [] })] (fn := Try.f64) (by kernel_rfl) fun x => toOpS_den x
theorem iCountBy_callable : callable Try.prog 65 = true := by kernel_rfl
theorem iCountBy_den (a : List GOp) (b : Int) : denF { tt := tt, fs := [] } [(3, { n := 22, its := [.t 1 (.ro (.base .int)), .t 5 (.ro (.base .int)), .t 8 (.ro (.list (.base .op))), .t 9 (.ro (.base .int)), .t 10 (.ro (.base .int))], boxes := [], ptrs := [] })] Try.f65 iCountByFS.ps iCountByFS.rs iCountByFS.ex (a, b) = iCountBy a b := by kernel_rfl
theorem iCountBy_sound : Sound Try.prog iCountByFS :=
  sound_of_den (E := { tt := tt, fs := [] }) (.nil tt_ok) mixed_ok [(3, { n := 22, its := [.t 1 (.ro (.base .int)), .t 5 (.ro (.base .int)), .t 8 (.ro (.list (.base .op))), .t 9 (.ro (.base .int)), .t 10 (.ro (.base .int))], boxes := [], ptrs := [] })] (fn := Try.f65) (by kernel_rfl) fun x => iCountBy_den x.1 x.2
theorem eqOpS_callable : callable Try.prog 66 = true := by kernel_rfl
theorem eqOpS_den (a : List GOp) (b : List GOp) : denF { tt := tt, fs := [eqOpFS] } [(4, { n := 27, its := [.t 0 (.ro (.list (.base .op))), .t 1 (.ro (.list (.base .op))), .t 5 (.ro (.base .int))], boxes := [], ptrs := [] })] Try.f66 eqOpSFS.ps eqOpSFS.rs eqOpSFS.ex (a, b) = eqOpS a b := by kernel_rfl
theorem eqOpS_sound : Sound Try.prog eqOpSFS :=
  sound_of_den (E := { tt := tt, fs := [eqOpFS] }) (.cons eqOp_callable eqOp_sound (.nil tt_ok)) mixed_ok [(4, { n := 27, its := [.t 0 (.ro (.list (.base .op))), .t 1 (.ro (.list (.base .op))), .t 5 (.ro (.base .int))], boxes := [], ptrs := [] })] (fn := Try.f66) (by kernel_rfl) fun x => eqOpS_den x.1 x.2
theorem FnExactCountBy_callable : callable Try.prog 12 = true := by kernel_rfl
theorem FnExactCountBy_den (a : List GOp) (b : Int) : denF { tt := tt, fs := [szOpSFS, sCountByFS, toOpSFS, iCountByFS, eqOpSFS] } [] Try.f12 FnExactCountByFS.ps FnExactCountByFS.rs FnExactCountByFS.ex (a, b) = FnExactCountBy a b := by kernel_rfl
theorem FnExactCountBy_sound : Sound Try.prog FnExactCountByFS :=
  sound_of_den (E := { tt := tt, fs := [szOpSFS, sCountByFS, toOpSFS, iCountByFS, eqOpSFS] }) (.cons szOpS_callable szOpS_sound (.cons sCountBy_callable sCountBy_sound (.cons toOpS_callable toOpS_sound (.cons iCountBy_callable iCountBy_sound (.cons eqOpS_callable eqOpS_sound (.nil tt_ok)))))) mixed_ok [] (fn := Try.f12) (by kernel_rfl) fun x => FnExactCountBy_den x.1 x.2
theorem sL1Max_callable : callable Try.prog 120 = true := by kernel_rfl
theorem sL1Max_den (a : Int) (b : Int) : denF { tt := tt, fs := [] } [] Try.f120 sL1MaxFS.ps sL1MaxFS.rs sL1MaxFS.ex (a, b) = sL1Max a b := by kernel_rfl
theorem sL1Max_sound : Sound Try.prog sL1MaxFS :=
  sound_of_den (E := { tt := tt, fs := [] }) (.nil tt_ok) mixed_ok [] (fn := Try.f120) (by kernel_rfl) fun x => sL1Max_den x.1 x.2
theorem sLastTime_callable : callable Try.prog 67 = true := by kernel_rfl
theorem sLastTime_den (a : List GOp) : denF { tt := tt, fs := [sL1MaxFS] } [(3, { n := 19, its := [.t 0 (.ro (.list (.base .op))), .t 3 (.ro (.base .int)), .t 4 (.ro (.base .int))], boxes := [], ptrs := [] })] Try.f67 sLastTimeFS.ps sLastTimeFS.rs sLastTimeFS.ex a = sLastTime a := by kernel_rfl
theorem sLastTime_sound : Sound Try.prog sLastTimeFS :=
  sound_of_den (E := { tt := tt, fs := [sL1MaxFS] }) (.cons sL1Max_callable sL1Max_sound (.nil tt_ok)) mixed_ok [(3, { n := 19, its := [.t 0 (.ro (.list (.base .op))), .t 3 (.ro (.base .int)), .t 4 (.ro (.base .int))], boxes := [], ptrs := [] })] (fn := Try.f67) (by kernel_rfl) fun x => sLastTime_den x
theorem iLastTime_callable : callable Try.prog 68 = true := by kernel_rfl
theorem iLastTime_den (a : List GOp) : denF { tt := tt, fs := [] } [(3, { n := 18, its := [.t 3 (.ro (.base .int)), .t 6 (.ro (.list (.base .op))), .t 7 (.ro (.base .int)), .t 8 (.ro (.base .int))], boxes := [], ptrs := [] })] Try.f68 iLastTimeFS.ps iLastTimeFS.rs iLastTimeFS.ex a = iLastTime a := by kernel_rfl
theorem iLastTime_sound : Sound Try.prog iLastTimeFS :=
  sound_of_den (E := { tt := tt, fs := [] }) (.nil tt_ok) mixed_ok [(3, { n := 18, its := [.t 3 (.ro (.base .int)), .t 6 (.ro (.list (.base .op))), .t 7 (.ro (.base .int)), .t 8 (.ro (.base .int))], boxes := [], ptrs := [] })] (fn := Try.f68) (by kernel_rfl) fun x => iLastTime_den x
theorem FnExactLastTime_callable : callable Try.prog 13 = true := by kernel_rfl
theorem FnExactLastTime_den (a : List GOp) : denF { tt := tt, fs := [szOpSFS, toOpSFS, eqOpSFS, sLastTimeFS, iLastTimeFS] } [] Try.f13 FnExactLastTimeFS.ps FnExactLastTimeFS.rs FnExactLastTimeFS.ex a = FnExactLastTime a := by kernel_rfl
theorem FnExactLastTime_sound : Sound Try.prog FnExactLastTimeFS :=
  sound_of_den (E := { tt := tt, fs := [szOpSFS, toOpSFS, eqOpSFS, sLastTimeFS, iLastTimeFS] }) (.cons szOpS_callable szOpS_sound (.cons toOpS_callable toOpS_sound (.cons eqOpS_callable eqOpS_sound (.cons sLastTime_callable sLastTime_sound (.cons iLastTime_callable iLastTime_sound (.nil tt_ok)))))) mixed_ok [] (fn := Try.f13) (by kernel_rfl) fun x => FnExactLastTime_den x
theorem sL17Copy_callable : callable Try.prog 114 = true := by kernel_rfl
theorem sL17Copy_den (a : GNotebook) : denF { tt := tt, fs := [] } [] Try.f114 sL17CopyFS.ps sL17CopyFS.rs sL17CopyFS.ex a = sL17Copy a := by kernel_rfl
theorem sL17Copy_sound : Sound Try.prog sL17CopyFS :=
  sound_of_den (E := { tt := tt, fs := [] }) (.nil tt_ok) mixed_ok [] (fn := Try.f114) (by kernel_rfl) fun x => sL17Copy_den x
theorem sL1Min_callable : callable Try.prog 183 = true := by kernel_rfl
theorem sL1Min_den (a : Int) (b : Int) : denF { tt := tt, fs := [] } [] Try.f183 sL1MinFS.ps sL1MinFS.rs sL1MinFS.ex (a, b) = sL1Min a b := by kernel_rfl
theorem sL1Min_sound : Sound Try.prog sL1MinFS :=
  sound_of_den (E := { tt := tt, fs := [] }) (.nil tt_ok) mixed_ok [] (fn := Try.f183) (by kernel_rfl) fun x => sL1Min_den x.1 x.2
theorem sL20Put_callable : callable Try.prog 165 = true := by kernel_rfl
theorem sL20Put_den (a : List GCell) (b : Int) (c : GCell) : denF { tt := tt, fs := [sL1MaxFS, sL1MinFS] } [] Try.f165 sL20PutFS.ps sL20PutFS.rs sL20PutFS.ex (a, b, c) = sL20Put a b c := by kernel_rfl
theorem sL20Put_sound : Sound Try.prog sL20PutFS :=
  sound_of_den (E := { tt := tt, fs := [sL1MaxFS, sL1MinFS] }) (.cons sL1Max_callable sL1Max_sound (.cons sL1Min_callable sL1Min_sound (.nil tt_ok))) mixed_ok [] (fn := Try.f165) (by kernel_rfl) fun x => sL20Put_den x.1 x.2.1 x.2.2
theorem sL20Drop_callable : callable Try.prog 166 = true := by kernel_rfl
theorem sL20Drop_den (a : List GCell) (b : Int) : denF { tt := tt, fs := [] } [] Try.f166 sL20DropFS.ps sL20DropFS.rs sL20DropFS.ex (a, b) = sL20Drop a b := by kernel_rfl
theorem sL20Drop_sound : Sound Try.prog sL20DropFS :=
  sound_of_den (E := { tt := tt, fs := [] }) (.nil tt_ok) mixed_ok [] (fn := Try.f166) (by kernel_rfl) fun x => sL20Drop_den x.1 x.2
theorem sL20Cell_callable : callable Try.prog 167 = true := by kernel_rfl
theorem sL20Cell_den (a : GCell) (b : GEdit) : denF { tt := tt, fs := [sIsValidCellFS] } [] Try.f167 sL20CellFS.ps sL20CellFS.rs sL20CellFS.ex (a, b) = sL20Cell a b := by kernel_rfl
theorem sL20Cell_sound : Sound Try.prog sL20CellFS :=
  sound_of_den (E := { tt := tt, fs := [sIsValidCellFS] }) (.cons sIsValidCell_callable sIsValidCell_sound (.nil tt_ok)) mixed_ok [] (fn := Try.f167) (by kernel_rfl) fun x => sL20Cell_den x.1 x.2
theorem sApplyEdit_callable : callable Try.prog 152 = true := by kernel_rfl
theorem sApplyEdit_den (a : GNotebook) (b : GEdit) : denF { tt := tt, fs := [sCellIndexFS, sL1InFS, sIsValidNotebookFS, sL17CopyFS, sIsValidCellFS, sL20PutFS, sL20DropFS, sL20CellFS] } [] Try.f152 sApplyEditFS.ps sApplyEditFS.rs sApplyEditFS.ex (a, b) = sApplyEdit a b := by kernel_rfl
theorem sApplyEdit_sound : Sound Try.prog sApplyEditFS :=
  sound_of_den (E := { tt := tt, fs := [sCellIndexFS, sL1InFS, sIsValidNotebookFS, sL17CopyFS, sIsValidCellFS, sL20PutFS, sL20DropFS, sL20CellFS] }) (.cons sCellIndex_callable sCellIndex_sound (.cons sL1In_callable sL1In_sound (.cons sIsValidNotebook_callable sIsValidNotebook_sound (.cons sL17Copy_callable sL17Copy_sound (.cons sIsValidCell_callable sIsValidCell_sound (.cons sL20Put_callable sL20Put_sound (.cons sL20Drop_callable sL20Drop_sound (.cons sL20Cell_callable sL20Cell_sound (.nil tt_ok))))))))) mixed_ok [] (fn := Try.f152) (by kernel_rfl) fun x => sApplyEdit_den x.1 x.2
theorem sApplyBatch_callable : callable Try.prog 121 = true := by kernel_rfl
theorem sApplyBatch_den (a : GNotebook) (b : List GEdit) : denF { tt := tt, fs := [sL17CopyFS, sApplyEditFS] } [(3, { n := 34, its := [.t 1 (.ro (.list (.base .edit))), .b 2 0 (.ro (.list (.base .cell))), .b 4 0 (.own (.base .cell) true true 0), .b 6 0 (.own (.base .cell) true true 1), .t 7 (.ro (.base .int))], boxes := [(2, 1), (4, 1), (6, 1)], ptrs := [(2, 2, 0), (4, 4, 0), (6, 6, 0)] })] Try.f121 sApplyBatchFS.ps sApplyBatchFS.rs sApplyBatchFS.ex (a, b) = sApplyBatch a b := by kernel_rfl
theorem sApplyBatch_sound : Sound Try.prog sApplyBatchFS :=
  sound_of_den (E := { tt := tt, fs := [sL17CopyFS, sApplyEditFS] }) (.cons sL17Copy_callable sL17Copy_sound (.cons sApplyEdit_callable sApplyEdit_sound (.nil tt_ok))) mixed_ok [(3, { n := 34, its := [.t 1 (.ro (.list (.base .edit))), .b 2 0 (.ro (.list (.base .cell))), .b 4 0 (.own (.base .cell) true true 0), .b 6 0 (.own (.base .cell) true true 1), .t 7 (.ro (.base .int))], boxes := [(2, 1), (4, 1), (6, 1)], ptrs := [(2, 2, 0), (4, 4, 0), (6, 6, 0)] })] (fn := Try.f121) (by kernel_rfl) fun x => sApplyBatch_den x.1 x.2
theorem sEqualNotebook_callable : callable Try.prog 139 = true := by kernel_rfl
theorem sEqualNotebook_den (a : GNotebook) (b : GNotebook) : denF { tt := tt, fs := [] } [(4, { n := 31, its := [.b 2 0 (.ro (.list (.base .cell))), .b 3 0 (.ro (.list (.base .cell))), .t 5 (.ro (.base .int))], boxes := [(2, 1), (3, 1)], ptrs := [(2, 2, 0), (3, 3, 0)] })] Try.f139 sEqualNotebookFS.ps sEqualNotebookFS.rs sEqualNotebookFS.ex (a, b) = sEqualNotebook a b := by kernel_rfl
theorem sEqualNotebook_sound : Sound Try.prog sEqualNotebookFS :=
  sound_of_den (E := { tt := tt, fs := [] }) (.nil tt_ok) mixed_ok [(4, { n := 31, its := [.b 2 0 (.ro (.list (.base .cell))), .b 3 0 (.ro (.list (.base .cell))), .t 5 (.ro (.base .int))], boxes := [(2, 1), (3, 1)], ptrs := [(2, 2, 0), (3, 3, 0)] })] (fn := Try.f139) (by kernel_rfl) fun x => sEqualNotebook_den x.1 x.2
theorem sSameContent_callable : callable Try.prog 122 = true := by kernel_rfl
theorem sSameContent_den (a : GNotebook) (b : GNotebook) : denF { tt := tt, fs := [sL17CopyFS, sEqualNotebookFS] } [(8, { n := 40, its := [.b 5 0 (.own (.base .cell) true true 0), .b 6 0 (.own (.base .cell) true true 1), .t 8 (.ro (.base .int))], boxes := [(5, 1), (6, 1)], ptrs := [(5, 5, 0), (6, 6, 0)] }), (4, { n := 40, its := [.b 5 0 (.own (.base .cell) true true 0), .b 6 0 (.own (.base .cell) true true 1), .t 7 (.ro (.base .int))], boxes := [(5, 1), (6, 1)], ptrs := [(5, 5, 0), (6, 6, 0)] })] Try.f122 sSameContentFS.ps sSameContentFS.rs sSameContentFS.ex (a, b) = sSameContent a b := by kernel_rfl
theorem sSameContent_sound : Sound Try.prog sSameContentFS :=
  sound_of_den (E := { tt := tt, fs := [sL17CopyFS, sEqualNotebookFS] }) (.cons sL17Copy_callable sL17Copy_sound (.cons sEqualNotebook_callable sEqualNotebook_sound (.nil tt_ok))) mixed_ok [(8, { n := 40, its := [.b 5 0 (.own (.base .cell) true true 0), .b 6 0 (.own (.base .cell) true true 1), .t 8 (.ro (.base .int))], boxes := [(5, 1), (6, 1)], ptrs := [(5, 5, 0), (6, 6, 0)] }), (4, { n := 40, its := [.b 5 0 (.own (.base .cell) true true 0), .b 6 0 (.own (.base .cell) true true 1), .t 7 (.ro (.base .int))], boxes := [(5, 1), (6, 1)], ptrs := [(5, 5, 0), (6, 6, 0)] })] (fn := Try.f122) (by kernel_rfl) fun x => sSameContent_den x.1 x.2
theorem sIsNoChange_callable : callable Try.prog 70 = true := by kernel_rfl
theorem sIsNoChange_den (a : GNotebook) (b : List GEdit) : denF { tt := tt, fs := [sApplyBatchFS, sSameContentFS] } [] Try.f70 sIsNoChangeFS.ps sIsNoChangeFS.rs sIsNoChangeFS.ex (a, b) = sIsNoChange a b := by kernel_rfl
theorem sIsNoChange_sound : Sound Try.prog sIsNoChangeFS :=
  sound_of_den (E := { tt := tt, fs := [sApplyBatchFS, sSameContentFS] }) (.cons sApplyBatch_callable sApplyBatch_sound (.cons sSameContent_callable sSameContent_sound (.nil tt_ok))) mixed_ok [] (fn := Try.f70) (by kernel_rfl) fun x => sIsNoChange_den x.1 x.2
theorem iCopyNotebook_callable : callable Try.prog 115 = true := by kernel_rfl
theorem iCopyNotebook_den (a : GNotebook) : denF { tt := tt, fs := [] } [] Try.f115 iCopyNotebookFS.ps iCopyNotebookFS.rs iCopyNotebookFS.ex a = iCopyNotebook a := by kernel_rfl
theorem iCopyNotebook_sound : Sound Try.prog iCopyNotebookFS :=
  sound_of_den (E := { tt := tt, fs := [] }) (.nil tt_ok) mixed_ok [] (fn := Try.f115) (by kernel_rfl) fun x => iCopyNotebook_den x
theorem iInserted_callable : callable Try.prog 184 = true := by kernel_rfl
theorem iInserted_den (a : List GCell) (b : Int) (c : GCell) : denF { tt := tt, fs := [] } [] Try.f184 iInsertedFS.ps iInsertedFS.rs iInsertedFS.ex (a, b, c) = iInserted a b c := by kernel_rfl
theorem iInserted_sound : Sound Try.prog iInsertedFS :=
  sound_of_den (E := { tt := tt, fs := [] }) (.nil tt_ok) mixed_ok [] (fn := Try.f184) (by kernel_rfl) fun x => iInserted_den x.1 x.2.1 x.2.2
theorem iRemoved_callable : callable Try.prog 185 = true := by kernel_rfl
theorem iRemoved_den (a : List GCell) (b : Int) : denF { tt := tt, fs := [] } [] Try.f185 iRemovedFS.ps iRemovedFS.rs iRemovedFS.ex (a, b) = iRemoved a b := by kernel_rfl
theorem iRemoved_sound : Sound Try.prog iRemovedFS :=
  sound_of_den (E := { tt := tt, fs := [] }) (.nil tt_ok) mixed_ok [] (fn := Try.f185) (by kernel_rfl) fun x => iRemoved_den x.1 x.2
theorem iChange_callable : callable Try.prog 168 = true := by kernel_rfl
theorem iChange_den (a : GNotebook) (b : GEdit) : denF { tt := tt, fs := [iCellIndexFS, iCopyNotebookFS, iIsValidCellFS, iInsertedFS, iRemovedFS] } [] Try.f168 iChangeFS.ps iChangeFS.rs iChangeFS.ex (a, b) = iChange a b := by kernel_rfl
theorem iChange_sound : Sound Try.prog iChangeFS :=
  sound_of_den (E := { tt := tt, fs := [iCellIndexFS, iCopyNotebookFS, iIsValidCellFS, iInsertedFS, iRemovedFS] }) (.cons iCellIndex_callable iCellIndex_sound (.cons iCopyNotebook_callable iCopyNotebook_sound (.cons iIsValidCell_callable iIsValidCell_sound (.cons iInserted_callable iInserted_sound (.cons iRemoved_callable iRemoved_sound (.nil tt_ok)))))) mixed_ok [] (fn := Try.f168) (by kernel_rfl) fun x => iChange_den x.1 x.2
theorem iApplyEdit_callable : callable Try.prog 153 = true := by kernel_rfl
theorem iApplyEdit_den (a : GNotebook) (b : GEdit) : denF { tt := tt, fs := [iIsValidNotebookFS, iWithinFS, iCopyNotebookFS, iChangeFS] } [] Try.f153 iApplyEditFS.ps iApplyEditFS.rs iApplyEditFS.ex (a, b) = iApplyEdit a b := by kernel_rfl
theorem iApplyEdit_sound : Sound Try.prog iApplyEditFS :=
  sound_of_den (E := { tt := tt, fs := [iIsValidNotebookFS, iWithinFS, iCopyNotebookFS, iChangeFS] }) (.cons iIsValidNotebook_callable iIsValidNotebook_sound (.cons iWithin_callable iWithin_sound (.cons iCopyNotebook_callable iCopyNotebook_sound (.cons iChange_callable iChange_sound (.nil tt_ok))))) mixed_ok [] (fn := Try.f153) (by kernel_rfl) fun x => iApplyEdit_den x.1 x.2
theorem iApplyBatch_callable : callable Try.prog 123 = true := by kernel_rfl
theorem iApplyBatch_den (a : GNotebook) (b : List GEdit) : denF { tt := tt, fs := [iCopyNotebookFS, iApplyEditFS] } [(3, { n := 34, its := [.b 2 0 (.ro (.list (.base .cell))), .b 4 0 (.own (.base .cell) true true 0), .b 6 0 (.own (.base .cell) true true 1), .t 13 (.ro (.list (.base .edit))), .t 14 (.ro (.base .int)), .t 15 (.ro (.base .int))], boxes := [(2, 1), (4, 1), (6, 1)], ptrs := [(2, 2, 0), (4, 4, 0), (6, 6, 0)] })] Try.f123 iApplyBatchFS.ps iApplyBatchFS.rs iApplyBatchFS.ex (a, b) = iApplyBatch a b := by kernel_rfl
theorem iApplyBatch_sound : Sound Try.prog iApplyBatchFS :=
  sound_of_den (E := { tt := tt, fs := [iCopyNotebookFS, iApplyEditFS] }) (.cons iCopyNotebook_callable iCopyNotebook_sound (.cons iApplyEdit_callable iApplyEdit_sound (.nil tt_ok))) mixed_ok [(3, { n := 34, its := [.b 2 0 (.ro (.list (.base .cell))), .b 4 0 (.own (.base .cell) true true 0), .b 6 0 (.own (.base .cell) true true 1), .t 13 (.ro (.list (.base .edit))), .t 14 (.ro (.base .int)), .t 15 (.ro (.base .int))], boxes := [(2, 1), (4, 1), (6, 1)], ptrs := [(2, 2, 0), (4, 4, 0), (6, 6, 0)] })] (fn := Try.f123) (by kernel_rfl) fun x => iApplyBatch_den x.1 x.2
theorem iSame_callable : callable Try.prog 169 = true := by kernel_rfl
theorem iSame_den (a : List GCell) (b : List GCell) : denF { tt := tt, fs := [] } [(4, { n := 26, its := [.t 0 (.ro (.list (.base .cell))), .t 1 (.ro (.list (.base .cell))), .t 12 (.ro (.base .int)), .t 13 (.ro (.base .int))], boxes := [], ptrs := [] })] Try.f169 iSameFS.ps iSameFS.rs iSameFS.ex (a, b) = iSame a b := by kernel_rfl
theorem iSame_sound : Sound Try.prog iSameFS :=
  sound_of_den (E := { tt := tt, fs := [] }) (.nil tt_ok) mixed_ok [(4, { n := 26, its := [.t 0 (.ro (.list (.base .cell))), .t 1 (.ro (.list (.base .cell))), .t 12 (.ro (.base .int)), .t 13 (.ro (.base .int))], boxes := [], ptrs := [] })] (fn := Try.f169) (by kernel_rfl) fun x => iSame_den x.1 x.2
theorem iEqualNotebook_callable : callable Try.prog 154 = true := by kernel_rfl
theorem iEqualNotebook_den (a : GNotebook) (b : GNotebook) : denF { tt := tt, fs := [iSameFS] } [] Try.f154 iEqualNotebookFS.ps iEqualNotebookFS.rs iEqualNotebookFS.ex (a, b) = iEqualNotebook a b := by kernel_rfl
theorem iEqualNotebook_sound : Sound Try.prog iEqualNotebookFS :=
  sound_of_den (E := { tt := tt, fs := [iSameFS] }) (.cons iSame_callable iSame_sound (.nil tt_ok)) mixed_ok [] (fn := Try.f154) (by kernel_rfl) fun x => iEqualNotebook_den x.1 x.2
theorem iUnversioned_callable : callable Try.prog 155 = true := by kernel_rfl
theorem iUnversioned_den (a : GNotebook) : denF { tt := tt, fs := [iCopyNotebookFS] } [(3, { n := 20, its := [.b 2 0 (.own (.base .cell) true true 0), .b 3 0 (.own (.base .cell) true true 4), .t 9 (.ro (.base .int)), .t 10 (.ro (.base .int))], boxes := [(2, 1), (3, 1)], ptrs := [(2, 2, 0), (3, 3, 0)] })] Try.f155 iUnversionedFS.ps iUnversionedFS.rs iUnversionedFS.ex a = iUnversioned a := by kernel_rfl
theorem iUnversioned_sound : Sound Try.prog iUnversionedFS :=
  sound_of_den (E := { tt := tt, fs := [iCopyNotebookFS] }) (.cons iCopyNotebook_callable iCopyNotebook_sound (.nil tt_ok)) mixed_ok [(3, { n := 20, its := [.b 2 0 (.own (.base .cell) true true 0), .b 3 0 (.own (.base .cell) true true 4), .t 9 (.ro (.base .int)), .t 10 (.ro (.base .int))], boxes := [(2, 1), (3, 1)], ptrs := [(2, 2, 0), (3, 3, 0)] })] (fn := Try.f155) (by kernel_rfl) fun x => iUnversioned_den x
theorem iSameContent_callable : callable Try.prog 124 = true := by kernel_rfl
theorem iSameContent_den (a : GNotebook) (b : GNotebook) : denF { tt := tt, fs := [iEqualNotebookFS, iUnversionedFS] } [] Try.f124 iSameContentFS.ps iSameContentFS.rs iSameContentFS.ex (a, b) = iSameContent a b := by kernel_rfl
theorem iSameContent_sound : Sound Try.prog iSameContentFS :=
  sound_of_den (E := { tt := tt, fs := [iEqualNotebookFS, iUnversionedFS] }) (.cons iEqualNotebook_callable iEqualNotebook_sound (.cons iUnversioned_callable iUnversioned_sound (.nil tt_ok))) mixed_ok [] (fn := Try.f124) (by kernel_rfl) fun x => iSameContent_den x.1 x.2
theorem iIsNoChange_callable : callable Try.prog 72 = true := by kernel_rfl
theorem iIsNoChange_den (a : GNotebook) (b : List GEdit) : denF { tt := tt, fs := [iApplyBatchFS, iSameContentFS] } [] Try.f72 iIsNoChangeFS.ps iIsNoChangeFS.rs iIsNoChangeFS.ex (a, b) = iIsNoChange a b := by kernel_rfl
theorem iIsNoChange_sound : Sound Try.prog iIsNoChangeFS :=
  sound_of_den (E := { tt := tt, fs := [iApplyBatchFS, iSameContentFS] }) (.cons iApplyBatch_callable iApplyBatch_sound (.cons iSameContent_callable iSameContent_sound (.nil tt_ok))) mixed_ok [] (fn := Try.f72) (by kernel_rfl) fun x => iIsNoChange_den x.1 x.2
theorem FnExactIsNoChange_callable : callable Try.prog 14 = true := by kernel_rfl
theorem FnExactIsNoChange_den (a : GNotebook) (b : List GEdit) : denF { tt := tt, fs := [szNotebookFS, toNotebookFS, eqNotebookFS, szEditSFS, sIsNoChangeFS, toEditSFS, iIsNoChangeFS, eqEditSFS] } [] Try.f14 FnExactIsNoChangeFS.ps FnExactIsNoChangeFS.rs FnExactIsNoChangeFS.ex (a, b) = FnExactIsNoChange a b := by kernel_rfl
theorem FnExactIsNoChange_sound : Sound Try.prog FnExactIsNoChangeFS :=
  sound_of_den (E := { tt := tt, fs := [szNotebookFS, toNotebookFS, eqNotebookFS, szEditSFS, sIsNoChangeFS, toEditSFS, iIsNoChangeFS, eqEditSFS] }) (.cons szNotebook_callable szNotebook_sound (.cons toNotebook_callable toNotebook_sound (.cons eqNotebook_callable eqNotebook_sound (.cons szEditS_callable szEditS_sound (.cons sIsNoChange_callable sIsNoChange_sound (.cons toEditS_callable toEditS_sound (.cons iIsNoChange_callable iIsNoChange_sound (.cons eqEditS_callable eqEditS_sound (.nil tt_ok))))))))) mixed_ok [] (fn := Try.f14) (by kernel_rfl) fun x => FnExactIsNoChange_den x.1 x.2
end Go.Proofs.Ytdjpggeakgdmmaa
