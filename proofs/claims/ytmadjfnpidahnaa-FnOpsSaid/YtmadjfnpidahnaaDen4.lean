/- The functions compute their models, by gen.py. -/
import Derived.Test.YtmadjfnpidahnaaDen3
namespace Go.Proofs.Ytmadjfnpidahnaa
open Go.Abs Go.Proofs
set_option maxRecDepth 100000
theorem iSameCell_callable : callable Try.prog 160 = true := by kernel_rfl
theorem iSameCell_den (a : List GCell) (b : List GCell) : denF { tt := tt, fs := [] } [(4, { n := 26, its := [.t 0 (.ro (.list (.base .cell))), .t 1 (.ro (.list (.base .cell))), .t 12 (.ro (.base .int)), .t 13 (.ro (.base .int))], boxes := [], ptrs := [] })] Try.f160 iSameCellFS.ps iSameCellFS.rs iSameCellFS.ex (a, b) = iSameCell a b := by kernel_rfl
theorem iSameCell_sound : Sound Try.prog iSameCellFS :=
  sound_of_den (E := { tt := tt, fs := [] }) (.nil tt_ok) mixed_ok [(4, { n := 26, its := [.t 0 (.ro (.list (.base .cell))), .t 1 (.ro (.list (.base .cell))), .t 12 (.ro (.base .int)), .t 13 (.ro (.base .int))], boxes := [], ptrs := [] })] (fn := Try.f160) (by kernel_rfl) fun x => iSameCell_den x.1 x.2
theorem iEqualNotebook_callable : callable Try.prog 112 = true := by kernel_rfl
theorem iEqualNotebook_den (a : GNotebook) (b : GNotebook) : denF { tt := tt, fs := [iSameCellFS] } [] Try.f112 iEqualNotebookFS.ps iEqualNotebookFS.rs iEqualNotebookFS.ex (a, b) = iEqualNotebook a b := by kernel_rfl
theorem iEqualNotebook_sound : Sound Try.prog iEqualNotebookFS :=
  sound_of_den (E := { tt := tt, fs := [iSameCellFS] }) (.cons iSameCell_callable iSameCell_sound (.nil tt_ok)) mixed_ok [] (fn := Try.f112) (by kernel_rfl) fun x => iEqualNotebook_den x.1 x.2
theorem iUnversioned_callable : callable Try.prog 113 = true := by kernel_rfl
theorem iUnversioned_den (a : GNotebook) : denF { tt := tt, fs := [iCopyNotebookFS] } [(3, { n := 20, its := [.b 2 0 (.own (.base .cell) true true 0), .b 3 0 (.own (.base .cell) true true 4), .t 9 (.ro (.base .int)), .t 10 (.ro (.base .int))], boxes := [(2, 1), (3, 1)], ptrs := [(2, 2, 0), (3, 3, 0)] })] Try.f113 iUnversionedFS.ps iUnversionedFS.rs iUnversionedFS.ex a = iUnversioned a := by kernel_rfl
theorem iUnversioned_sound : Sound Try.prog iUnversionedFS :=
  sound_of_den (E := { tt := tt, fs := [iCopyNotebookFS] }) (.cons iCopyNotebook_callable iCopyNotebook_sound (.nil tt_ok)) mixed_ok [(3, { n := 20, its := [.b 2 0 (.own (.base .cell) true true 0), .b 3 0 (.own (.base .cell) true true 4), .t 9 (.ro (.base .int)), .t 10 (.ro (.base .int))], boxes := [(2, 1), (3, 1)], ptrs := [(2, 2, 0), (3, 3, 0)] })] (fn := Try.f113) (by kernel_rfl) fun x => iUnversioned_den x
theorem iSameContent_callable : callable Try.prog 61 = true := by kernel_rfl
theorem iSameContent_den (a : GNotebook) (b : GNotebook) : denF { tt := tt, fs := [iEqualNotebookFS, iUnversionedFS] } [] Try.f61 iSameContentFS.ps iSameContentFS.rs iSameContentFS.ex (a, b) = iSameContent a b := by kernel_rfl
theorem iSameContent_sound : Sound Try.prog iSameContentFS :=
  sound_of_den (E := { tt := tt, fs := [iEqualNotebookFS, iUnversionedFS] }) (.cons iEqualNotebook_callable iEqualNotebook_sound (.cons iUnversioned_callable iUnversioned_sound (.nil tt_ok))) mixed_ok [] (fn := Try.f61) (by kernel_rfl) fun x => iSameContent_den x.1 x.2
theorem iIsNoChange_callable : callable Try.prog 28 = true := by kernel_rfl
theorem iIsNoChange_den (a : GNotebook) (b : List GEdit) : denF { tt := tt, fs := [iApplyBatchFS, iSameContentFS] } [] Try.f28 iIsNoChangeFS.ps iIsNoChangeFS.rs iIsNoChangeFS.ex (a, b) = iIsNoChange a b := by kernel_rfl
theorem iIsNoChange_sound : Sound Try.prog iIsNoChangeFS :=
  sound_of_den (E := { tt := tt, fs := [iApplyBatchFS, iSameContentFS] }) (.cons iApplyBatch_callable iApplyBatch_sound (.cons iSameContent_callable iSameContent_sound (.nil tt_ok))) mixed_ok [] (fn := Try.f28) (by kernel_rfl) fun x => iIsNoChange_den x.1 x.2
theorem FnInverseBatches_callable : callable Try.prog 5 = true := by kernel_rfl
theorem FnInverseBatches_den (a : List Int) : denF { tt := tt, fs := [bigFS, iApplyBatchFS, sApplyEditsFS, sDrawInverseBatchFS, iInverseBatchFS, sApplyBatchFS, sSameContentFS, iIsNoChangeFS] } [] Try.f5 FnInverseBatchesFS.ps FnInverseBatchesFS.rs FnInverseBatchesFS.ex a = FnInverseBatches a := by kernel_rfl
theorem FnInverseBatches_sound : Sound Try.prog FnInverseBatchesFS :=
  sound_of_den (E := { tt := tt, fs := [bigFS, iApplyBatchFS, sApplyEditsFS, sDrawInverseBatchFS, iInverseBatchFS, sApplyBatchFS, sSameContentFS, iIsNoChangeFS] }) (.cons big_callable big_sound (.cons iApplyBatch_callable iApplyBatch_sound (.cons sApplyEdits_callable sApplyEdits_sound (.cons sDrawInverseBatch_callable sDrawInverseBatch_sound (.cons iInverseBatch_callable iInverseBatch_sound (.cons sApplyBatch_callable sApplyBatch_sound (.cons sSameContent_callable sSameContent_sound (.cons iIsNoChange_callable iIsNoChange_sound (.nil tt_ok))))))))) mixed_ok [] (fn := Try.f5) (by kernel_rfl) fun x => FnInverseBatches_den x
end Go.Proofs.Ytmadjfnpidahnaa
