/- The functions compute their models, by gen.py. -/
import Derived.Test.YtdjpggeakgdmmaaDen3
namespace Go.Proofs.Ytdjpggeakgdmmaa
open Go.Abs Go.Proofs
set_option maxRecDepth 100000
theorem sApplyBatch_callable : callable Try.prog 121 = true := by kernel_rfl
theorem sApplyBatch_den (a : GNotebook) (b : List GEdit) : denF { tt := tt, fs := [sL17CopyFS, sApplyEditFS] } [(3, { n := 34, its := [.t 1 (.ro (.list (.base .edit))), .b 2 0 (.ro (.list (.base .cell))), .b 4 0 (.own (.base .cell) true true 0), .b 6 0 (.own (.base .cell) true true 1), .t 7 (.ro (.base .int))], boxes := [(2, 1), (4, 1), (6, 1)], ptrs := [(2, 2, 0), (4, 4, 0), (6, 6, 0)] })] Try.f121 sApplyBatchFS.ps sApplyBatchFS.rs sApplyBatchFS.ex (a, b) = sApplyBatch a b := by kernel_rfl
theorem sApplyBatch_sound : Sound Try.prog sApplyBatchFS :=
  sound_of_den (E := { tt := tt, fs := [sL17CopyFS, sApplyEditFS] }) (.cons sL17Copy_callable sL17Copy_sound (.cons sApplyEdit_callable sApplyEdit_sound (.nil tt_ok))) mixed_ok [(3, { n := 34, its := [.t 1 (.ro (.list (.base .edit))), .b 2 0 (.ro (.list (.base .cell))), .b 4 0 (.own (.base .cell) true true 0), .b 6 0 (.own (.base .cell) true true 1), .t 7 (.ro (.base .int))], boxes := [(2, 1), (4, 1), (6, 1)], ptrs := [(2, 2, 0), (4, 4, 0), (6, 6, 0)] })] (fn := Try.f121) (by kernel_rfl) fun x => sApplyBatch_den x.1 x.2
theorem iInserted_callable : callable Try.prog 184 = true := by kernel_rfl
theorem iInserted_den (a : List GCell) (b : Int) (c : GCell) : denF { tt := tt, fs := [] } [] Try.f184 iInsertedFS.ps iInsertedFS.rs iInsertedFS.ex (a, b, c) = iInserted a b c := by kernel_rfl
theorem iInserted_sound : Sound Try.prog iInsertedFS :=
  sound_of_den (E := { tt := tt, fs := [] }) (.nil tt_ok) mixed_ok [] (fn := Try.f184) (by kernel_rfl) fun x => iInserted_den x.1 x.2.1 x.2.2
theorem iRemoved_callable : callable Try.prog 185 = true := by kernel_rfl
theorem iRemoved_den (a : List GCell) (b : Int) : denF { tt := tt, fs := [] } [] Try.f185 iRemovedFS.ps iRemovedFS.rs iRemovedFS.ex (a, b) = iRemoved a b := by kernel_rfl
theorem iRemoved_sound : Sound Try.prog iRemovedFS :=
  sound_of_den (E := { tt := tt, fs := [] }) (.nil tt_ok) mixed_ok [] (fn := Try.f185) (by kernel_rfl) fun x => iRemoved_den x.1 x.2
theorem iChange_callable : callable Try.prog 168 = true := by kernel_rfl
theorem iChange_den (a : GNotebook) (b : GEdit) : denF { tt := tt, fs := [iCellIndexFS, iCopyNotebookFS, iIsValidCellFS, iInsertedFS, iRemovedFS] } [] Try.f168 iChangeFS.ps iChangeFS.rs iChangeFS.ex (a, b) = iChange a b := by kernel_rfl
theorem iChange_sound : Sound Try.prog iChangeFS :=
  sound_of_den (E := { tt := tt, fs := [iCellIndexFS, iCopyNotebookFS, iIsValidCellFS, iInsertedFS, iRemovedFS] }) (.cons iCellIndex_callable iCellIndex_sound (.cons iCopyNotebook_callable iCopyNotebook_sound (.cons iIsValidCell_callable iIsValidCell_sound (.cons iInserted_callable iInserted_sound (.cons iRemoved_callable iRemoved_sound (.nil tt_ok)))))) mixed_ok [] (fn := Try.f168) (by kernel_rfl) fun x => iChange_den x.1 x.2
theorem iApplyEdit_callable : callable Try.prog 153 = true := by kernel_rfl
theorem iApplyEdit_den (a : GNotebook) (b : GEdit) : denF { tt := tt, fs := [iIsValidNotebookFS, iWithinFS, iCopyNotebookFS, iChangeFS] } [] Try.f153 iApplyEditFS.ps iApplyEditFS.rs iApplyEditFS.ex (a, b) = iApplyEdit a b := by kernel_rfl
theorem iApplyEdit_sound : Sound Try.prog iApplyEditFS :=
  sound_of_den (E := { tt := tt, fs := [iIsValidNotebookFS, iWithinFS, iCopyNotebookFS, iChangeFS] }) (.cons iIsValidNotebook_callable iIsValidNotebook_sound (.cons iWithin_callable iWithin_sound (.cons iCopyNotebook_callable iCopyNotebook_sound (.cons iChange_callable iChange_sound (.nil tt_ok))))) mixed_ok [] (fn := Try.f153) (by kernel_rfl) fun x => iApplyEdit_den x.1 x.2
theorem iApplyBatch_callable : callable Try.prog 123 = true := by kernel_rfl
theorem iApplyBatch_den (a : GNotebook) (b : List GEdit) : denF { tt := tt, fs := [iCopyNotebookFS, iApplyEditFS] } [(3, { n := 34, its := [.b 2 0 (.ro (.list (.base .cell))), .b 4 0 (.own (.base .cell) true true 0), .b 6 0 (.own (.base .cell) true true 1), .t 13 (.ro (.list (.base .edit))), .t 14 (.ro (.base .int)), .t 15 (.ro (.base .int))], boxes := [(2, 1), (4, 1), (6, 1)], ptrs := [(2, 2, 0), (4, 4, 0), (6, 6, 0)] })] Try.f123 iApplyBatchFS.ps iApplyBatchFS.rs iApplyBatchFS.ex (a, b) = iApplyBatch a b := by kernel_rfl
theorem iApplyBatch_sound : Sound Try.prog iApplyBatchFS :=
  sound_of_den (E := { tt := tt, fs := [iCopyNotebookFS, iApplyEditFS] }) (.cons iCopyNotebook_callable iCopyNotebook_sound (.cons iApplyEdit_callable iApplyEdit_sound (.nil tt_ok))) mixed_ok [(3, { n := 34, its := [.b 2 0 (.ro (.list (.base .cell))), .b 4 0 (.own (.base .cell) true true 0), .b 6 0 (.own (.base .cell) true true 1), .t 13 (.ro (.list (.base .edit))), .t 14 (.ro (.base .int)), .t 15 (.ro (.base .int))], boxes := [(2, 1), (4, 1), (6, 1)], ptrs := [(2, 2, 0), (4, 4, 0), (6, 6, 0)] })] (fn := Try.f123) (by kernel_rfl) fun x => iApplyBatch_den x.1 x.2
theorem iUnversioned_callable : callable Try.prog 155 = true := by kernel_rfl
theorem iUnversioned_den (a : GNotebook) : denF { tt := tt, fs := [iCopyNotebookFS] } [(3, { n := 20, its := [.b 2 0 (.own (.base .cell) true true 0), .b 3 0 (.own (.base .cell) true true 4), .t 9 (.ro (.base .int)), .t 10 (.ro (.base .int))], boxes := [(2, 1), (3, 1)], ptrs := [(2, 2, 0), (3, 3, 0)] })] Try.f155 iUnversionedFS.ps iUnversionedFS.rs iUnversionedFS.ex a = iUnversioned a := by kernel_rfl
theorem iUnversioned_sound : Sound Try.prog iUnversionedFS :=
  sound_of_den (E := { tt := tt, fs := [iCopyNotebookFS] }) (.cons iCopyNotebook_callable iCopyNotebook_sound (.nil tt_ok)) mixed_ok [(3, { n := 20, its := [.b 2 0 (.own (.base .cell) true true 0), .b 3 0 (.own (.base .cell) true true 4), .t 9 (.ro (.base .int)), .t 10 (.ro (.base .int))], boxes := [(2, 1), (3, 1)], ptrs := [(2, 2, 0), (3, 3, 0)] })] (fn := Try.f155) (by kernel_rfl) fun x => iUnversioned_den x
end Go.Proofs.Ytdjpggeakgdmmaa
