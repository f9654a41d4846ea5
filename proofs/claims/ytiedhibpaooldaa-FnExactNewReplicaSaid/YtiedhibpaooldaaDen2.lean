/- The functions compute their models, by gen.py. -/
import Derived.Test.YtiedhibpaooldaaDen1
namespace Go.Proofs.Ytiedhibpaooldaa
open Go.Abs Go.Proofs
set_option maxRecDepth 100000
theorem sL20Drop_callable : callable Try.prog 136 = true := by kernel_rfl
theorem sL20Drop_den (a : List GCell) (b : Int) : denF { tt := tt, fs := [] } [] Try.f136 sL20DropFS.ps sL20DropFS.rs sL20DropFS.ex (a, b) = sL20Drop a b := by kernel_rfl
theorem sL20Drop_sound : Sound Try.prog sL20DropFS :=
  sound_of_den (E := { tt := tt, fs := [] }) (.nil tt_ok) mixed_ok [] (fn := Try.f136) (by kernel_rfl) fun x => sL20Drop_den x.1 x.2
theorem sL20Cell_callable : callable Try.prog 137 = true := by kernel_rfl
theorem sL20Cell_den (a : GCell) (b : GEdit) : denF { tt := tt, fs := [sIsValidCellFS] } [] Try.f137 sL20CellFS.ps sL20CellFS.rs sL20CellFS.ex (a, b) = sL20Cell a b := by kernel_rfl
theorem sL20Cell_sound : Sound Try.prog sL20CellFS :=
  sound_of_den (E := { tt := tt, fs := [sIsValidCellFS] }) (.cons sIsValidCell_callable sIsValidCell_sound (.nil tt_ok)) mixed_ok [] (fn := Try.f137) (by kernel_rfl) fun x => sL20Cell_den x.1 x.2
theorem sApplyEdit_callable : callable Try.prog 101 = true := by kernel_rfl
theorem sApplyEdit_den (a : GNotebook) (b : GEdit) : denF { tt := tt, fs := [sCellIndexFS, sIsValidNotebookFS, sL17CopyFS, sL1InFS, sIsValidCellFS, sL20PutFS, sL20DropFS, sL20CellFS] } [] Try.f101 sApplyEditFS.ps sApplyEditFS.rs sApplyEditFS.ex (a, b) = sApplyEdit a b := by kernel_rfl
theorem sApplyEdit_sound : Sound Try.prog sApplyEditFS :=
  sound_of_den (E := { tt := tt, fs := [sCellIndexFS, sIsValidNotebookFS, sL17CopyFS, sL1InFS, sIsValidCellFS, sL20PutFS, sL20DropFS, sL20CellFS] }) (.cons sCellIndex_callable sCellIndex_sound (.cons sIsValidNotebook_callable sIsValidNotebook_sound (.cons sL17Copy_callable sL17Copy_sound (.cons sL1In_callable sL1In_sound (.cons sIsValidCell_callable sIsValidCell_sound (.cons sL20Put_callable sL20Put_sound (.cons sL20Drop_callable sL20Drop_sound (.cons sL20Cell_callable sL20Cell_sound (.nil tt_ok))))))))) mixed_ok [] (fn := Try.f101) (by kernel_rfl) fun x => sApplyEdit_den x.1 x.2
theorem sApplyBatch_callable : callable Try.prog 46 = true := by kernel_rfl
theorem sApplyBatch_den (a : GNotebook) (b : List GEdit) : denF { tt := tt, fs := [sL17CopyFS, sApplyEditFS] } [(3, { n := 34, its := [.t 1 (.ro (.list (.base .edit))), .b 2 0 (.ro (.list (.base .cell))), .b 4 0 (.own (.base .cell) true true 0), .b 6 0 (.own (.base .cell) true true 1), .t 7 (.ro (.base .int))], boxes := [(2, 1), (4, 1), (6, 1)], ptrs := [(2, 2, 0), (4, 4, 0), (6, 6, 0)] })] Try.f46 sApplyBatchFS.ps sApplyBatchFS.rs sApplyBatchFS.ex (a, b) = sApplyBatch a b := by kernel_rfl
theorem sApplyBatch_sound : Sound Try.prog sApplyBatchFS :=
  sound_of_den (E := { tt := tt, fs := [sL17CopyFS, sApplyEditFS] }) (.cons sL17Copy_callable sL17Copy_sound (.cons sApplyEdit_callable sApplyEdit_sound (.nil tt_ok))) mixed_ok [(3, { n := 34, its := [.t 1 (.ro (.list (.base .edit))), .b 2 0 (.ro (.list (.base .cell))), .b 4 0 (.own (.base .cell) true true 0), .b 6 0 (.own (.base .cell) true true 1), .t 7 (.ro (.base .int))], boxes := [(2, 1), (4, 1), (6, 1)], ptrs := [(2, 2, 0), (4, 4, 0), (6, 6, 0)] })] (fn := Try.f46) (by kernel_rfl) fun x => sApplyBatch_den x.1 x.2
theorem sEqualNotebook_callable : callable Try.prog 116 = true := by kernel_rfl
theorem sEqualNotebook_den (a : GNotebook) (b : GNotebook) : denF { tt := tt, fs := [] } [(4, { n := 31, its := [.b 2 0 (.ro (.list (.base .cell))), .b 3 0 (.ro (.list (.base .cell))), .t 5 (.ro (.base .int))], boxes := [(2, 1), (3, 1)], ptrs := [(2, 2, 0), (3, 3, 0)] })] Try.f116 sEqualNotebookFS.ps sEqualNotebookFS.rs sEqualNotebookFS.ex (a, b) = sEqualNotebook a b := by kernel_rfl
theorem sEqualNotebook_sound : Sound Try.prog sEqualNotebookFS :=
  sound_of_den (E := { tt := tt, fs := [] }) (.nil tt_ok) mixed_ok [(4, { n := 31, its := [.b 2 0 (.ro (.list (.base .cell))), .b 3 0 (.ro (.list (.base .cell))), .t 5 (.ro (.base .int))], boxes := [(2, 1), (3, 1)], ptrs := [(2, 2, 0), (3, 3, 0)] })] (fn := Try.f116) (by kernel_rfl) fun x => sEqualNotebook_den x.1 x.2
theorem sSameContent_callable : callable Try.prog 84 = true := by kernel_rfl
theorem sSameContent_den (a : GNotebook) (b : GNotebook) : denF { tt := tt, fs := [sL17CopyFS, sEqualNotebookFS] } [(8, { n := 40, its := [.b 5 0 (.own (.base .cell) true true 0), .b 6 0 (.own (.base .cell) true true 1), .t 8 (.ro (.base .int))], boxes := [(5, 1), (6, 1)], ptrs := [(5, 5, 0), (6, 6, 0)] }), (4, { n := 40, its := [.b 5 0 (.own (.base .cell) true true 0), .b 6 0 (.own (.base .cell) true true 1), .t 7 (.ro (.base .int))], boxes := [(5, 1), (6, 1)], ptrs := [(5, 5, 0), (6, 6, 0)] })] Try.f84 sSameContentFS.ps sSameContentFS.rs sSameContentFS.ex (a, b) = sSameContent a b := by kernel_rfl
theorem sSameContent_sound : Sound Try.prog sSameContentFS :=
  sound_of_den (E := { tt := tt, fs := [sL17CopyFS, sEqualNotebookFS] }) (.cons sL17Copy_callable sL17Copy_sound (.cons sEqualNotebook_callable sEqualNotebook_sound (.nil tt_ok))) mixed_ok [(8, { n := 40, its := [.b 5 0 (.own (.base .cell) true true 0), .b 6 0 (.own (.base .cell) true true 1), .t 8 (.ro (.base .int))], boxes := [(5, 1), (6, 1)], ptrs := [(5, 5, 0), (6, 6, 0)] }), (4, { n := 40, its := [.b 5 0 (.own (.base .cell) true true 0), .b 6 0 (.own (.base .cell) true true 1), .t 7 (.ro (.base .int))], boxes := [(5, 1), (6, 1)], ptrs := [(5, 5, 0), (6, 6, 0)] })] (fn := Try.f84) (by kernel_rfl) fun x => sSameContent_den x.1 x.2
theorem sIsNoChange_callable : callable Try.prog 30 = true := by kernel_rfl
theorem sIsNoChange_den (a : GNotebook) (b : List GEdit) : denF { tt := tt, fs := [sApplyBatchFS, sSameContentFS] } [] Try.f30 sIsNoChangeFS.ps sIsNoChangeFS.rs sIsNoChangeFS.ex (a, b) = sIsNoChange a b := by kernel_rfl
theorem sIsNoChange_sound : Sound Try.prog sIsNoChangeFS :=
  sound_of_den (E := { tt := tt, fs := [sApplyBatchFS, sSameContentFS] }) (.cons sApplyBatch_callable sApplyBatch_sound (.cons sSameContent_callable sSameContent_sound (.nil tt_ok))) mixed_ok [] (fn := Try.f30) (by kernel_rfl) fun x => sIsNoChange_den x.1 x.2
theorem toEdit_callable : callable Try.prog 85 = true := by kernel_rfl
theorem toEdit_den (a : GEdit) : denF { tt := tt, fs := [toCellFS] } [] Try.f85 toEditFS.ps toEditFS.rs toEditFS.ex a = toEdit a := by kernel_rfl
theorem toEdit_sound : Sound Try.prog toEditFS :=
  sound_of_den (E := { tt := tt, fs := [toCellFS] }) (.cons toCell_callable toCell_sound (.nil tt_ok)) mixed_ok [] (fn := Try.f85) (by kernel_rfl) fun x => toEdit_den x
theorem toEditS_callable : callable Try.prog 31 = true := by kernel_rfl
theorem toEditS_den (a : List GEdit) : denF { tt := tt, fs := [toEditFS] } [(3, { n := 23, its := [.t 0 (.ro (.list (.base .edit))), .t 3 (.own (.base .edit) true true 0), .t 4 (.ro (.base .int))], boxes := [], ptrs := [] })] Try.f31 toEditSFS.ps toEditSFS.rs toEditSFS.ex a = toEditS a := by kernel_rfl
theorem toEditS_sound : Sound Try.prog toEditSFS :=
  sound_of_den (E := { tt := tt, fs := [toEditFS] }) (.cons toEdit_callable toEdit_sound (.nil tt_ok)) mixed_ok [(3, { n := 23, its := [.t 0 (.ro (.list (.base .edit))), .t 3 (.own (.base .edit) true true 0), .t 4 (.ro (.base .int))], boxes := [], ptrs := [] })] (fn := Try.f31) (by kernel_rfl) fun x => toEditS_den x
theorem iInserted_callable : callable Try.prog 159 = true := by kernel_rfl
theorem iInserted_den (a : List GCell) (b : Int) (c : GCell) : denF { tt := tt, fs := [] } [] Try.f159 iInsertedFS.ps iInsertedFS.rs iInsertedFS.ex (a, b, c) = iInserted a b c := by kernel_rfl
theorem iInserted_sound : Sound Try.prog iInsertedFS :=
  sound_of_den (E := { tt := tt, fs := [] }) (.nil tt_ok) mixed_ok [] (fn := Try.f159) (by kernel_rfl) fun x => iInserted_den x.1 x.2.1 x.2.2
theorem iRemoved_callable : callable Try.prog 160 = true := by kernel_rfl
theorem iRemoved_den (a : List GCell) (b : Int) : denF { tt := tt, fs := [] } [] Try.f160 iRemovedFS.ps iRemovedFS.rs iRemovedFS.ex (a, b) = iRemoved a b := by kernel_rfl
theorem iRemoved_sound : Sound Try.prog iRemovedFS :=
  sound_of_den (E := { tt := tt, fs := [] }) (.nil tt_ok) mixed_ok [] (fn := Try.f160) (by kernel_rfl) fun x => iRemoved_den x.1 x.2
theorem iChange_callable : callable Try.prog 138 = true := by kernel_rfl
theorem iChange_den (a : GNotebook) (b : GEdit) : denF { tt := tt, fs := [iCellIndexFS, iCopyNotebookFS, iIsValidCellFS, iInsertedFS, iRemovedFS] } [] Try.f138 iChangeFS.ps iChangeFS.rs iChangeFS.ex (a, b) = iChange a b := by kernel_rfl
theorem iChange_sound : Sound Try.prog iChangeFS :=
  sound_of_den (E := { tt := tt, fs := [iCellIndexFS, iCopyNotebookFS, iIsValidCellFS, iInsertedFS, iRemovedFS] }) (.cons iCellIndex_callable iCellIndex_sound (.cons iCopyNotebook_callable iCopyNotebook_sound (.cons iIsValidCell_callable iIsValidCell_sound (.cons iInserted_callable iInserted_sound (.cons iRemoved_callable iRemoved_sound (.nil tt_ok)))))) mixed_ok [] (fn := Try.f138) (by kernel_rfl) fun x => iChange_den x.1 x.2
theorem iApplyEdit_callable : callable Try.prog 102 = true := by kernel_rfl
theorem iApplyEdit_den (a : GNotebook) (b : GEdit) : denF { tt := tt, fs := [iIsValidNotebookFS, iCopyNotebookFS, iWithinFS, iChangeFS] } [] Try.f102 iApplyEditFS.ps iApplyEditFS.rs iApplyEditFS.ex (a, b) = iApplyEdit a b := by kernel_rfl
theorem iApplyEdit_sound : Sound Try.prog iApplyEditFS :=
  sound_of_den (E := { tt := tt, fs := [iIsValidNotebookFS, iCopyNotebookFS, iWithinFS, iChangeFS] }) (.cons iIsValidNotebook_callable iIsValidNotebook_sound (.cons iCopyNotebook_callable iCopyNotebook_sound (.cons iWithin_callable iWithin_sound (.cons iChange_callable iChange_sound (.nil tt_ok))))) mixed_ok [] (fn := Try.f102) (by kernel_rfl) fun x => iApplyEdit_den x.1 x.2
theorem iApplyBatch_callable : callable Try.prog 47 = true := by kernel_rfl
theorem iApplyBatch_den (a : GNotebook) (b : List GEdit) : denF { tt := tt, fs := [iCopyNotebookFS, iApplyEditFS] } [(3, { n := 34, its := [.b 2 0 (.ro (.list (.base .cell))), .b 4 0 (.own (.base .cell) true true 0), .b 6 0 (.own (.base .cell) true true 1), .t 13 (.ro (.list (.base .edit))), .t 14 (.ro (.base .int)), .t 15 (.ro (.base .int))], boxes := [(2, 1), (4, 1), (6, 1)], ptrs := [(2, 2, 0), (4, 4, 0), (6, 6, 0)] })] Try.f47 iApplyBatchFS.ps iApplyBatchFS.rs iApplyBatchFS.ex (a, b) = iApplyBatch a b := by kernel_rfl
theorem iApplyBatch_sound : Sound Try.prog iApplyBatchFS :=
  sound_of_den (E := { tt := tt, fs := [iCopyNotebookFS, iApplyEditFS] }) (.cons iCopyNotebook_callable iCopyNotebook_sound (.cons iApplyEdit_callable iApplyEdit_sound (.nil tt_ok))) mixed_ok [(3, { n := 34, its := [.b 2 0 (.ro (.list (.base .cell))), .b 4 0 (.own (.base .cell) true true 0), .b 6 0 (.own (.base .cell) true true 1), .t 13 (.ro (.list (.base .edit))), .t 14 (.ro (.base .int)), .t 15 (.ro (.base .int))], boxes := [(2, 1), (4, 1), (6, 1)], ptrs := [(2, 2, 0), (4, 4, 0), (6, 6, 0)] })] (fn := Try.f47) (by kernel_rfl) fun x => iApplyBatch_den x.1 x.2
theorem iSameCell_callable : callable Try.prog 148 = true := by kernel_rfl
theorem iSameCell_den (a : List GCell) (b : List GCell) : denF { tt := tt, fs := [] } [(4, { n := 26, its := [.t 0 (.ro (.list (.base .cell))), .t 1 (.ro (.list (.base .cell))), .t 12 (.ro (.base .int)), .t 13 (.ro (.base .int))], boxes := [], ptrs := [] })] Try.f148 iSameCellFS.ps iSameCellFS.rs iSameCellFS.ex (a, b) = iSameCell a b := by kernel_rfl
theorem iSameCell_sound : Sound Try.prog iSameCellFS :=
  sound_of_den (E := { tt := tt, fs := [] }) (.nil tt_ok) mixed_ok [(4, { n := 26, its := [.t 0 (.ro (.list (.base .cell))), .t 1 (.ro (.list (.base .cell))), .t 12 (.ro (.base .int)), .t 13 (.ro (.base .int))], boxes := [], ptrs := [] })] (fn := Try.f148) (by kernel_rfl) fun x => iSameCell_den x.1 x.2
theorem iEqualNotebook_callable : callable Try.prog 119 = true := by kernel_rfl
theorem iEqualNotebook_den (a : GNotebook) (b : GNotebook) : denF { tt := tt, fs := [iSameCellFS] } [] Try.f119 iEqualNotebookFS.ps iEqualNotebookFS.rs iEqualNotebookFS.ex (a, b) = iEqualNotebook a b := by kernel_rfl
theorem iEqualNotebook_sound : Sound Try.prog iEqualNotebookFS :=
  sound_of_den (E := { tt := tt, fs := [iSameCellFS] }) (.cons iSameCell_callable iSameCell_sound (.nil tt_ok)) mixed_ok [] (fn := Try.f119) (by kernel_rfl) fun x => iEqualNotebook_den x.1 x.2
theorem iUnversioned_callable : callable Try.prog 129 = true := by kernel_rfl
theorem iUnversioned_den (a : GNotebook) : denF { tt := tt, fs := [iCopyNotebookFS] } [(3, { n := 20, its := [.b 2 0 (.own (.base .cell) true true 0), .b 3 0 (.own (.base .cell) true true 4), .t 9 (.ro (.base .int)), .t 10 (.ro (.base .int))], boxes := [(2, 1), (3, 1)], ptrs := [(2, 2, 0), (3, 3, 0)] })] Try.f129 iUnversionedFS.ps iUnversionedFS.rs iUnversionedFS.ex a = iUnversioned a := by kernel_rfl
theorem iUnversioned_sound : Sound Try.prog iUnversionedFS :=
  sound_of_den (E := { tt := tt, fs := [iCopyNotebookFS] }) (.cons iCopyNotebook_callable iCopyNotebook_sound (.nil tt_ok)) mixed_ok [(3, { n := 20, its := [.b 2 0 (.own (.base .cell) true true 0), .b 3 0 (.own (.base .cell) true true 4), .t 9 (.ro (.base .int)), .t 10 (.ro (.base .int))], boxes := [(2, 1), (3, 1)], ptrs := [(2, 2, 0), (3, 3, 0)] })] (fn := Try.f129) (by kernel_rfl) fun x => iUnversioned_den x
theorem iSameContent_callable : callable Try.prog 86 = true := by kernel_rfl
theorem iSameContent_den (a : GNotebook) (b : GNotebook) : denF { tt := tt, fs := [iEqualNotebookFS, iUnversionedFS] } [] Try.f86 iSameContentFS.ps iSameContentFS.rs iSameContentFS.ex (a, b) = iSameContent a b := by kernel_rfl
theorem iSameContent_sound : Sound Try.prog iSameContentFS :=
  sound_of_den (E := { tt := tt, fs := [iEqualNotebookFS, iUnversionedFS] }) (.cons iEqualNotebook_callable iEqualNotebook_sound (.cons iUnversioned_callable iUnversioned_sound (.nil tt_ok))) mixed_ok [] (fn := Try.f86) (by kernel_rfl) fun x => iSameContent_den x.1 x.2
theorem iIsNoChange_callable : callable Try.prog 32 = true := by kernel_rfl
theorem iIsNoChange_den (a : GNotebook) (b : List GEdit) : denF { tt := tt, fs := [iApplyBatchFS, iSameContentFS] } [] Try.f32 iIsNoChangeFS.ps iIsNoChangeFS.rs iIsNoChangeFS.ex (a, b) = iIsNoChange a b := by kernel_rfl
theorem iIsNoChange_sound : Sound Try.prog iIsNoChangeFS :=
  sound_of_den (E := { tt := tt, fs := [iApplyBatchFS, iSameContentFS] }) (.cons iApplyBatch_callable iApplyBatch_sound (.cons iSameContent_callable iSameContent_sound (.nil tt_ok))) mixed_ok [] (fn := Try.f32) (by kernel_rfl) fun x => iIsNoChange_den x.1 x.2
theorem FnExactIsNoChange_callable : callable Try.prog 5 = true := by kernel_rfl
theorem FnExactIsNoChange_den (a : GNotebook) (b : List GEdit) : denF { tt := tt, fs := [szNotebookFS, toNotebookFS, eqNotebookFS, szEditSFS, sIsNoChangeFS, toEditSFS, iIsNoChangeFS, eqEditSFS] } [] Try.f5 FnExactIsNoChangeFS.ps FnExactIsNoChangeFS.rs FnExactIsNoChangeFS.ex (a, b) = FnExactIsNoChange a b := by kernel_rfl
theorem FnExactIsNoChange_sound : Sound Try.prog FnExactIsNoChangeFS :=
  sound_of_den (E := { tt := tt, fs := [szNotebookFS, toNotebookFS, eqNotebookFS, szEditSFS, sIsNoChangeFS, toEditSFS, iIsNoChangeFS, eqEditSFS] }) (.cons szNotebook_callable szNotebook_sound (.cons toNotebook_callable toNotebook_sound (.cons eqNotebook_callable eqNotebook_sound (.cons szEditS_callable szEditS_sound (.cons sIsNoChange_callable sIsNoChange_sound (.cons toEditS_callable toEditS_sound (.cons iIsNoChange_callable iIsNoChange_sound (.cons eqEditS_callable eqEditS_sound (.nil tt_ok))))))))) mixed_ok [] (fn := Try.f5) (by kernel_rfl) fun x => FnExactIsNoChange_den x.1 x.2
theorem szNode_callable : callable Try.prog 133 = true := by kernel_rfl
theorem szNode_den (a : GNode) (b : Int) : denF { tt := tt, fs := [szEditSFS] } [] Try.f133 szNodeFS.ps szNodeFS.rs szNodeFS.ex (a, b) = szNode a b := by kernel_rfl
theorem szNode_sound : Sound Try.prog szNodeFS :=
  sound_of_den (E := { tt := tt, fs := [szEditSFS] }) (.cons szEditS_callable szEditS_sound (.nil tt_ok)) mixed_ok [] (fn := Try.f133) (by kernel_rfl) fun x => szNode_den x.1 x.2
theorem szNodeS_callable : callable Try.prog 96 = true := by kernel_rfl
theorem szNodeS_den (a : List GNode) (b : Int) : denF { tt := tt, fs := [szNodeFS] } [(5, { n := 27, its := [.t 0 (.ro (.list (.base .node))), .t 1 (.ro (.base .int)), .t 5 (.ro (.base .int))], boxes := [], ptrs := [] })] Try.f96 szNodeSFS.ps szNodeSFS.rs szNodeSFS.ex (a, b) = szNodeS a b := by kernel_rfl
theorem szNodeS_sound : Sound Try.prog szNodeSFS :=
  sound_of_den (E := { tt := tt, fs := [szNodeFS] }) (.cons szNode_callable szNode_sound (.nil tt_ok)) mixed_ok [(5, { n := 27, its := [.t 0 (.ro (.list (.base .node))), .t 1 (.ro (.base .int)), .t 5 (.ro (.base .int))], boxes := [], ptrs := [] })] (fn := Try.f96) (by kernel_rfl) fun x => szNodeS_den x.1 x.2
theorem szHistory_callable : callable Try.prog 42 = true := by kernel_rfl
theorem szHistory_den (a : GHistory) (b : Int) : denF { tt := tt, fs := [szNotebookFS, szNodeSFS] } [] Try.f42 szHistoryFS.ps szHistoryFS.rs szHistoryFS.ex (a, b) = szHistory a b := by kernel_rfl
theorem szHistory_sound : Sound Try.prog szHistoryFS :=
  sound_of_den (E := { tt := tt, fs := [szNotebookFS, szNodeSFS] }) (.cons szNotebook_callable szNotebook_sound (.cons szNodeS_callable szNodeS_sound (.nil tt_ok))) mixed_ok [] (fn := Try.f42) (by kernel_rfl) fun x => szHistory_den x.1 x.2
theorem sIsValidHistory_callable : callable Try.prog 97 = true := by kernel_rfl
theorem sIsValidHistory_den (a : GHistory) : denF { tt := tt, fs := [sIsValidNotebookFS, sL1InFS] } [(3, { n := 53, its := [.b 1 0 (.ro (.list (.base .cell))), .b 1 1 (.ro (.list (.base .node))), .b 1 2 (.ro (.base .int)), .t 3 (.ro (.base .int)), .t 4 (.ro (.base .int))], boxes := [(1, 3)], ptrs := [(1, 1, 0)] })] Try.f97 sIsValidHistoryFS.ps sIsValidHistoryFS.rs sIsValidHistoryFS.ex a = sIsValidHistory a := by kernel_rfl
theorem sIsValidHistory_sound : Sound Try.prog sIsValidHistoryFS :=
  sound_of_den (E := { tt := tt, fs := [sIsValidNotebookFS, sL1InFS] }) (.cons sIsValidNotebook_callable sIsValidNotebook_sound (.cons sL1In_callable sL1In_sound (.nil tt_ok))) mixed_ok [(3, { n := 53, its := [.b 1 0 (.ro (.list (.base .cell))), .b 1 1 (.ro (.list (.base .node))), .b 1 2 (.ro (.base .int)), .t 3 (.ro (.base .int)), .t 4 (.ro (.base .int))], boxes := [(1, 3)], ptrs := [(1, 1, 0)] })] (fn := Try.f97) (by kernel_rfl) fun x => sIsValidHistory_den x
theorem sPathTo_callable : callable Try.prog 43 = true := by kernel_rfl
theorem sPathTo_den (a : GHistory) (b : Int) : denF { tt := tt, fs := [sL1InFS, sIsValidHistoryFS] } [(4, { n := 33, its := [.t 1 (.ro (.base .int)), .b 2 0 (.ro (.list (.base .cell))), .b 2 1 (.ro (.list (.base .node))), .b 2 2 (.ro (.base .int)), .t 5 (.own (.base .int) true true 0)], boxes := [(2, 3)], ptrs := [(2, 2, 0)] })] Try.f43 sPathToFS.ps sPathToFS.rs sPathToFS.ex (a, b) = sPathTo a b := by kernel_rfl
theorem sPathTo_sound : Sound Try.prog sPathToFS :=
  sound_of_den (E := { tt := tt, fs := [sL1InFS, sIsValidHistoryFS] }) (.cons sL1In_callable sL1In_sound (.cons sIsValidHistory_callable sIsValidHistory_sound (.nil tt_ok))) mixed_ok [(4, { n := 33, its := [.t 1 (.ro (.base .int)), .b 2 0 (.ro (.list (.base .cell))), .b 2 1 (.ro (.list (.base .node))), .b 2 2 (.ro (.base .int)), .t 5 (.own (.base .int) true true 0)], boxes := [(2, 3)], ptrs := [(2, 2, 0)] })] (fn := Try.f43) (by kernel_rfl) fun x => sPathTo_den x.1 x.2
theorem toNode_callable : callable Try.prog 134 = true := by kernel_rfl
theorem toNode_den (a : GNode) : denF { tt := tt, fs := [toEditSFS] } [] Try.f134 toNodeFS.ps toNodeFS.rs toNodeFS.ex a = toNode a := by kernel_rfl
theorem toNode_sound : Sound Try.prog toNodeFS :=
  sound_of_den (E := { tt := tt, fs := [toEditSFS] }) (.cons toEditS_callable toEditS_sound (.nil tt_ok)) mixed_ok [] (fn := Try.f134) (by kernel_rfl) fun x => toNode_den x
theorem toNodeS_callable : callable Try.prog 98 = true := by kernel_rfl
theorem toNodeS_den (a : List GNode) : denF { tt := tt, fs := [toNodeFS] } [(3, { n := 23, its := [.t 0 (.ro (.list (.base .node))), .t 3 (.own (.base .node) true true 0), .t 4 (.ro (.base .int))], boxes := [], ptrs := [] })] Try.f98 toNodeSFS.ps toNodeSFS.rs toNodeSFS.ex a = toNodeS a := by kernel_rfl
theorem toNodeS_sound : Sound Try.prog toNodeSFS :=
  sound_of_den (E := { tt := tt, fs := [toNodeFS] }) (.cons toNode_callable toNode_sound (.nil tt_ok)) mixed_ok [(3, { n := 23, its := [.t 0 (.ro (.list (.base .node))), .t 3 (.own (.base .node) true true 0), .t 4 (.ro (.base .int))], boxes := [], ptrs := [] })] (fn := Try.f98) (by kernel_rfl) fun x => toNodeS_den x
theorem toHistory_callable : callable Try.prog 44 = true := by kernel_rfl
theorem toHistory_den (a : GHistory) : denF { tt := tt, fs := [toNotebookFS, toNodeSFS] } [] Try.f44 toHistoryFS.ps toHistoryFS.rs toHistoryFS.ex a = toHistory a := by kernel_rfl
theorem toHistory_sound : Sound Try.prog toHistoryFS :=
  sound_of_den (E := { tt := tt, fs := [toNotebookFS, toNodeSFS] }) (.cons toNotebook_callable toNotebook_sound (.cons toNodeS_callable toNodeS_sound (.nil tt_ok))) mixed_ok [] (fn := Try.f44) (by kernel_rfl) fun x => toHistory_den x
theorem iIsValidHistory_callable : callable Try.prog 99 = true := by kernel_rfl
theorem iIsValidHistory_den (a : GHistory) : denF { tt := tt, fs := [iIsValidNotebookFS, iWithinFS] } [(4, { n := 49, its := [.t 36 (.ro (.list (.base .node))), .t 37 (.ro (.base .int)), .t 38 (.ro (.base .int))], boxes := [], ptrs := [] })] Try.f99 iIsValidHistoryFS.ps iIsValidHistoryFS.rs iIsValidHistoryFS.ex a = iIsValidHistory a := by kernel_rfl
theorem iIsValidHistory_sound : Sound Try.prog iIsValidHistoryFS :=
  sound_of_den (E := { tt := tt, fs := [iIsValidNotebookFS, iWithinFS] }) (.cons iIsValidNotebook_callable iIsValidNotebook_sound (.cons iWithin_callable iWithin_sound (.nil tt_ok))) mixed_ok [(4, { n := 49, its := [.t 36 (.ro (.list (.base .node))), .t 37 (.ro (.base .int)), .t 38 (.ro (.base .int))], boxes := [], ptrs := [] })] (fn := Try.f99) (by kernel_rfl) fun x => iIsValidHistory_den x
theorem iPathTo_callable : callable Try.prog 45 = true := by kernel_rfl
theorem iPathTo_den (a : GHistory) (b : Int) : denF { tt := tt, fs := [iIsValidHistoryFS, iWithinFS] } [(4, { n := 32, its := [.t 1 (.ro (.base .int)), .b 2 0 (.ro (.list (.base .cell))), .b 2 1 (.ro (.list (.base .node))), .b 2 2 (.ro (.base .int)), .t 5 (.own (.base .int) true true 0)], boxes := [(2, 3)], ptrs := [(2, 2, 0)] })] Try.f45 iPathToFS.ps iPathToFS.rs iPathToFS.ex (a, b) = iPathTo a b := by kernel_rfl
theorem iPathTo_sound : Sound Try.prog iPathToFS :=
  sound_of_den (E := { tt := tt, fs := [iIsValidHistoryFS, iWithinFS] }) (.cons iIsValidHistory_callable iIsValidHistory_sound (.cons iWithin_callable iWithin_sound (.nil tt_ok))) mixed_ok [(4, { n := 32, its := [.t 1 (.ro (.base .int)), .b 2 0 (.ro (.list (.base .cell))), .b 2 1 (.ro (.list (.base .node))), .b 2 2 (.ro (.base .int)), .t 5 (.own (.base .int) true true 0)], boxes := [(2, 3)], ptrs := [(2, 2, 0)] })] (fn := Try.f45) (by kernel_rfl) fun x => iPathTo_den x.1 x.2
end Go.Proofs.Ytiedhibpaooldaa
