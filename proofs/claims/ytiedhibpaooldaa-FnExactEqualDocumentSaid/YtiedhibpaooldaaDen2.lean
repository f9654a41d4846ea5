/- The functions compute their models, by gen.py. -/
import Derived.Test.YtiedhibpaooldaaDen1
namespace Go.Proofs.Ytiedhibpaooldaa
open Go.Abs Go.Proofs
set_option maxRecDepth 100000
theorem toEditS_callable : callable Try.prog 31 = true := by kernel_rfl
theorem toEditS_den (a : List GEdit) : denF { tt := tt, fs := [toEditFS] } [(3, { n := 23, its := [.t 0 (.ro (.list (.base .edit))), .t 3 (.own (.base .edit) true true 0), .t 4 (.ro (.base .int))], boxes := [], ptrs := [] })] Try.f31 toEditSFS.ps toEditSFS.rs toEditSFS.ex a = toEditS a := by kernel_rfl
theorem toEditS_sound : Sound Try.prog toEditSFS :=
  sound_of_den (E := { tt := tt, fs := [toEditFS] }) (.cons toEdit_callable toEdit_sound (.nil tt_ok)) mixed_ok [(3, { n := 23, its := [.t 0 (.ro (.list (.base .edit))), .t 3 (.own (.base .edit) true true 0), .t 4 (.ro (.base .int))], boxes := [], ptrs := [] })] (fn := Try.f31) (by kernel_rfl) fun x => toEditS_den x
theorem iInserted_callable : callable Try.prog 159 = true := by kernel_rfl
theorem iInserted_den (a : List GCell) (b : Int) (c : GCell) : denF { tt := tt, fs := [] } [] Try.f159 iInsertedFS.ps iInsertedFS.rs iInsertedFS.ex (a, b, c) = iInserted a b c := by kernel_rfl
theorem iInserted_sound : Sound Try.prog iInsertedFS :=
  sound_of_den (E := { tt := tt, fs := [] }) (.nil tt_ok) mixed_ok [] (fn := Try.f159) (by kernel_rfl) fun x => iInserted_den x.1 x.2.1 x.2.2
theorem iRemoved_callable : callable Try.prog 160 = true := by kernel_rfl
theorem iRemoved_den (a : List GCell) (b : Int) : denF { tt := tt, fs := [] } [] Try.f160 iRemovedFS.ps iRemovedFS.rs iRemovedFS.ex (a, b) = iRemoved a b := by kernel_rfl
theorem iRemoved_sound : Sound Try.prog iRemovedFS :=
  sound_of_den (E := { tt := tt, fs := [] }) (.nil tt_ok) mixed_ok [] (fn := Try.f160) (by kernel_rfl) fun x => iRemoved_den x.1 x.2
theorem iChange_callable : callable Try.prog 138 = true := by kernel_rfl
theorem iChange_den (a : GNotebook) (b : GEdit) : denF { tt := tt, fs := [iCellIndexFS, iCopyNotebookFS, iIsValidCellFS, iInsertedFS, iRemovedFS] } [] Try.f138 iChangeFS.ps iChangeFS.rs iChangeFS.ex (a, b) = iChange a b := by kernel_rfl
theorem iChange_sound : Sound Try.prog iChangeFS :=
  sound_of_den (E := { tt := tt, fs := [iCellIndexFS, iCopyNotebookFS, iIsValidCellFS, iInsertedFS, iRemovedFS] }) (.cons iCellIndex_callable iCellIndex_sound (.cons iCopyNotebook_callable iCopyNotebook_sound (.cons iIsValidCell_callable iIsValidCell_sound (.cons iInserted_callable iInserted_sound (.cons iRemoved_callable iRemoved_sound (.nil tt_ok)))))) mixed_ok [] (fn := Try.f138) (by kernel_rfl) fun x => iChange_den x.1 x.2
theorem iApplyEdit_callable : callable Try.prog 102 = true := by kernel_rfl
theorem iApplyEdit_den (a : GNotebook) (b : GEdit) : denF { tt := tt, fs := [iIsValidNotebookFS, iCopyNotebookFS, iWithinFS, iChangeFS] } [] Try.f102 iApplyEditFS.ps iApplyEditFS.rs iApplyEditFS.ex (a, b) = iApplyEdit a b := by kernel_rfl
theorem iApplyEdit_sound : Sound Try.prog iApplyEditFS :=
  sound_of_den (E := { tt := tt, fs := [iIsValidNotebookFS, iCopyNotebookFS, iWithinFS, iChangeFS] }) (.cons iIsValidNotebook_callable iIsValidNotebook_sound (.cons iCopyNotebook_callable iCopyNotebook_sound (.cons iWithin_callable iWithin_sound (.cons iChange_callable iChange_sound (.nil tt_ok))))) mixed_ok [] (fn := Try.f102) (by kernel_rfl) fun x => iApplyEdit_den x.1 x.2
theorem iApplyBatch_callable : callable Try.prog 47 = true := by kernel_rfl
theorem iApplyBatch_den (a : GNotebook) (b : List GEdit) : denF { tt := tt, fs := [iCopyNotebookFS, iApplyEditFS] } [(3, { n := 34, its := [.b 2 0 (.ro (.list (.base .cell))), .b 4 0 (.own (.base .cell) true true 0), .b 6 0 (.own (.base .cell) true true 1), .t 13 (.ro (.list (.base .edit))), .t 14 (.ro (.base .int)), .t 15 (.ro (.base .int))], boxes := [(2, 1), (4, 1), (6, 1)], ptrs := [(2, 2, 0), (4, 4, 0), (6, 6, 0)] })] Try.f47 iApplyBatchFS.ps iApplyBatchFS.rs iApplyBatchFS.ex (a, b) = iApplyBatch a b := by kernel_rfl
theorem iApplyBatch_sound : Sound Try.prog iApplyBatchFS :=
  sound_of_den (E := { tt := tt, fs := [iCopyNotebookFS, iApplyEditFS] }) (.cons iCopyNotebook_callable iCopyNotebook_sound (.cons iApplyEdit_callable iApplyEdit_sound (.nil tt_ok))) mixed_ok [(3, { n := 34, its := [.b 2 0 (.ro (.list (.base .cell))), .b 4 0 (.own (.base .cell) true true 0), .b 6 0 (.own (.base .cell) true true 1), .t 13 (.ro (.list (.base .edit))), .t 14 (.ro (.base .int)), .t 15 (.ro (.base .int))], boxes := [(2, 1), (4, 1), (6, 1)], ptrs := [(2, 2, 0), (4, 4, 0), (6, 6, 0)] })] (fn := Try.f47) (by kernel_rfl) fun x => iApplyBatch_den x.1 x.2
theorem iSameCell_callable : callable Try.prog 148 = true := by kernel_rfl
theorem iSameCell_den (a : List GCell) (b : List GCell) : denF { tt := tt, fs := [] } [(4, { n := 26, its := [.t 0 (.ro (.list (.base .cell))), .t 1 (.ro (.list (.base .cell))), .t 12 (.ro (.base .int)), .t 13 (.ro (.base .int))], boxes := [], ptrs := [] })] Try.f148 iSameCellFS.ps iSameCellFS.rs iSameCellFS.ex (a, b) = iSameCell a b := by kernel_rfl
theorem iSameCell_sound : Sound Try.prog iSameCellFS :=
  sound_of_den (E := { tt := tt, fs := [] }) (.nil tt_ok) mixed_ok [(4, { n := 26, its := [.t 0 (.ro (.list (.base .cell))), .t 1 (.ro (.list (.base .cell))), .t 12 (.ro (.base .int)), .t 13 (.ro (.base .int))], boxes := [], ptrs := [] })] (fn := Try.f148) (by kernel_rfl) fun x => iSameCell_den x.1 x.2
theorem iEqualNotebook_callable : callable Try.prog 119 = true := by kernel_rfl
theorem iEqualNotebook_den (a : GNotebook) (b : GNotebook) : denF { tt := tt, fs := [iSameCellFS] } [] Try.f119 iEqualNotebookFS.ps iEqualNotebookFS.rs iEqualNotebookFS.ex (a, b) = iEqualNotebook a b := by kernel_rfl
theorem iEqualNotebook_sound : Sound Try.prog iEqualNotebookFS :=
  sound_of_den (E := { tt := tt, fs := [iSameCellFS] }) (.cons iSameCell_callable iSameCell_sound (.nil tt_ok)) mixed_ok [] (fn := Try.f119) (by kernel_rfl) fun x => iEqualNotebook_den x.1 x.2
theorem iUnversioned_callable : callable Try.prog 129 = true := by kernel_rfl
theorem iUnversioned_den (a : GNotebook) : denF { tt := tt, fs := [iCopyNotebookFS] } [(3, { n := 20, its := [.b 2 0 (.own (.base .cell) true true 0), .b 3 0 (.own (.base .cell) true true 4), .t 9 (.ro (.base .int)), .t 10 (.ro (.base .int))], boxes := [(2, 1), (3, 1)], ptrs := [(2, 2, 0), (3, 3, 0)] })] Try.f129 iUnversionedFS.ps iUnversionedFS.rs iUnversionedFS.ex a = iUnversioned a := by kernel_rfl
theorem iUnversioned_sound : Sound Try.prog iUnversionedFS :=
  sound_of_den (E := { tt := tt, fs := [iCopyNotebookFS] }) (.cons iCopyNotebook_callable iCopyNotebook_sound (.nil tt_ok)) mixed_ok [(3, { n := 20, its := [.b 2 0 (.own (.base .cell) true true 0), .b 3 0 (.own (.base .cell) true true 4), .t 9 (.ro (.base .int)), .t 10 (.ro (.base .int))], boxes := [(2, 1), (3, 1)], ptrs := [(2, 2, 0), (3, 3, 0)] })] (fn := Try.f129) (by kernel_rfl) fun x => iUnversioned_den x
theorem iSameContent_callable : callable Try.prog 86 = true := by kernel_rfl
theorem iSameContent_den (a : GNotebook) (b : GNotebook) : denF { tt := tt, fs := [iEqualNotebookFS, iUnversionedFS] } [] Try.f86 iSameContentFS.ps iSameContentFS.rs iSameContentFS.ex (a, b) = iSameContent a b := by kernel_rfl
theorem iSameContent_sound : Sound Try.prog iSameContentFS :=
  sound_of_den (E := { tt := tt, fs := [iEqualNotebookFS, iUnversionedFS] }) (.cons iEqualNotebook_callable iEqualNotebook_sound (.cons iUnversioned_callable iUnversioned_sound (.nil tt_ok))) mixed_ok [] (fn := Try.f86) (by kernel_rfl) fun x => iSameContent_den x.1 x.2
theorem iIsNoChange_callable : callable Try.prog 32 = true := by kernel_rfl
theorem iIsNoChange_den (a : GNotebook) (b : List GEdit) : denF { tt := tt, fs := [iApplyBatchFS, iSameContentFS] } [] Try.f32 iIsNoChangeFS.ps iIsNoChangeFS.rs iIsNoChangeFS.ex (a, b) = iIsNoChange a b := by kernel_rfl
theorem iIsNoChange_sound : Sound Try.prog iIsNoChangeFS :=
  sound_of_den (E := { tt := tt, fs := [iApplyBatchFS, iSameContentFS] }) (.cons iApplyBatch_callable iApplyBatch_sound (.cons iSameContent_callable iSameContent_sound (.nil tt_ok))) mixed_ok [] (fn := Try.f32) (by kernel_rfl) fun x => iIsNoChange_den x.1 x.2
theorem FnExactIsNoChange_callable : callable Try.prog 5 = true := by kernel_rfl
theorem FnExactIsNoChange_den (a : GNotebook) (b : List GEdit) : denF { tt := tt, fs := [szNotebookFS, toNotebookFS, eqNotebookFS, szEditSFS, sIsNoChangeFS, toEditSFS, iIsNoChangeFS, eqEditSFS] } [] Try.f5 FnExactIsNoChangeFS.ps FnExactIsNoChangeFS.rs FnExactIsNoChangeFS.ex (a, b) = FnExactIsNoChange a b := by kernel_rfl
theorem FnExactIsNoChange_sound : Sound Try.prog FnExactIsNoChangeFS :=
  sound_of_den (E := { tt := tt, fs := [szNotebookFS, toNotebookFS, eqNotebookFS, szEditSFS, sIsNoChangeFS, toEditSFS, iIsNoChangeFS, eqEditSFS] }) (.cons szNotebook_callable szNotebook_sound (.cons toNotebook_callable toNotebook_sound (.cons eqNotebook_callable eqNotebook_sound (.cons szEditS_callable szEditS_sound (.cons sIsNoChange_callable sIsNoChange_sound (.cons toEditS_callable toEditS_sound (.cons iIsNoChange_callable iIsNoChange_sound (.cons eqEditS_callable eqEditS_sound (.nil tt_ok))))))))) mixed_ok [] (fn := Try.f5) (by kernel_rfl) fun x => FnExactIsNoChange_den x.1 x.2
theorem szIntS_callable : callable Try.prog 88 = true := by kernel_rfl
theorem szIntS_den (a : List Int) (b : Int) : denF { tt := tt, fs := [] } [] Try.f88 szIntSFS.ps szIntSFS.rs szIntSFS.ex (a, b) = szIntS a b := by kernel_rfl
theorem szIntS_sound : Sound Try.prog szIntSFS :=
  sound_of_den (E := { tt := tt, fs := [] }) (.nil tt_ok) mixed_ok [] (fn := Try.f88) (by kernel_rfl) fun x => szIntS_den x.1 x.2
theorem szStringS_callable : callable Try.prog 174 = true := by kernel_rfl
theorem szStringS_den (a : List Str) (b : Int) : denF { tt := tt, fs := [] } [(5, { n := 28, its := [.t 0 (.ro (.list (.base .str))), .t 1 (.ro (.base .int)), .t 5 (.ro (.base .int))], boxes := [], ptrs := [] })] Try.f174 szStringSFS.ps szStringSFS.rs szStringSFS.ex (a, b) = szStringS a b := by kernel_rfl
theorem szStringS_sound : Sound Try.prog szStringSFS :=
  sound_of_den (E := { tt := tt, fs := [] }) (.nil tt_ok) mixed_ok [(5, { n := 28, its := [.t 0 (.ro (.list (.base .str))), .t 1 (.ro (.base .int)), .t 5 (.ro (.base .int))], boxes := [], ptrs := [] })] (fn := Try.f174) (by kernel_rfl) fun x => szStringS_den x.1 x.2
theorem szOriginS_callable : callable Try.prog 194 = true := by kernel_rfl
theorem szOriginS_den (a : List GOrigin) (b : Int) : denF { tt := tt, fs := [] } [] Try.f194 szOriginSFS.ps szOriginSFS.rs szOriginSFS.ex (a, b) = szOriginS a b := by kernel_rfl
theorem szOriginS_sound : Sound Try.prog szOriginSFS :=
  sound_of_den (E := { tt := tt, fs := [] }) (.nil tt_ok) mixed_ok [] (fn := Try.f194) (by kernel_rfl) fun x => szOriginS_den x.1 x.2
theorem szRow_callable : callable Try.prog 191 = true := by kernel_rfl
theorem szRow_den (a : GRow) (b : Int) : denF { tt := tt, fs := [szIntSFS, szOriginSFS] } [] Try.f191 szRowFS.ps szRowFS.rs szRowFS.ex (a, b) = szRow a b := by kernel_rfl
theorem szRow_sound : Sound Try.prog szRowFS :=
  sound_of_den (E := { tt := tt, fs := [szIntSFS, szOriginSFS] }) (.cons szIntS_callable szIntS_sound (.cons szOriginS_callable szOriginS_sound (.nil tt_ok))) mixed_ok [] (fn := Try.f191) (by kernel_rfl) fun x => szRow_den x.1 x.2
theorem szRowS_callable : callable Try.prog 175 = true := by kernel_rfl
theorem szRowS_den (a : List GRow) (b : Int) : denF { tt := tt, fs := [szRowFS] } [(5, { n := 27, its := [.t 0 (.ro (.list (.base .row))), .t 1 (.ro (.base .int)), .t 5 (.ro (.base .int))], boxes := [], ptrs := [] })] Try.f175 szRowSFS.ps szRowSFS.rs szRowSFS.ex (a, b) = szRowS a b := by kernel_rfl
theorem szRowS_sound : Sound Try.prog szRowSFS :=
  sound_of_den (E := { tt := tt, fs := [szRowFS] }) (.cons szRow_callable szRow_sound (.nil tt_ok)) mixed_ok [(5, { n := 27, its := [.t 0 (.ro (.list (.base .row))), .t 1 (.ro (.base .int)), .t 5 (.ro (.base .int))], boxes := [], ptrs := [] })] (fn := Try.f175) (by kernel_rfl) fun x => szRowS_den x.1 x.2
theorem szValue_callable : callable Try.prog 154 = true := by kernel_rfl
theorem szValueS_callable : callable Try.prog 173 = true := by kernel_rfl
theorem szValue_den (rszValue : GVal → Int → Option (Int)) (rszValueS : (List GVal) → Int → Option (Int)) (a : GVal) (b : Int) : denF { tt := tt, fs := [szStringSFS, szRowSFS, { fid := 154, ps := [⟨true, .base .val⟩, ⟨false, .base .int⟩], rs := [⟨false, .base .int⟩], ex := true, fn := fun x => rszValue x.1 x.2 }, { fid := 173, ps := [⟨false, .list (.base .val)⟩, ⟨false, .base .int⟩], rs := [⟨false, .base .int⟩], ex := true, fn := fun x => rszValueS x.1 x.2 }] } [] Try.f154 szValueFS.ps szValueFS.rs szValueFS.ex (a, b) = szValueB rszValue rszValueS a b := by kernel_rfl
theorem szValueS_den (rszValue : GVal → Int → Option (Int)) (rszValueS : (List GVal) → Int → Option (Int)) (a : List GVal) (b : Int) : denF { tt := tt, fs := [szStringSFS, szRowSFS, { fid := 154, ps := [⟨true, .base .val⟩, ⟨false, .base .int⟩], rs := [⟨false, .base .int⟩], ex := true, fn := fun x => rszValue x.1 x.2 }, { fid := 173, ps := [⟨false, .list (.base .val)⟩, ⟨false, .base .int⟩], rs := [⟨false, .base .int⟩], ex := true, fn := fun x => rszValueS x.1 x.2 }] } [(5, { n := 27, its := [.t 0 (.ro (.list (.base .val))), .t 1 (.ro (.base .int)), .t 5 (.ro (.base .int))], boxes := [], ptrs := [] })] Try.f173 szValueSFS.ps szValueSFS.rs szValueSFS.ex (a, b) = szValueSB rszValue rszValueS a b := by kernel_rfl
theorem szValueG_sound : ∀ n, Sound Try.prog (szValueFSN n) ∧ Sound Try.prog (szValueSFSN n)
  | 0 => ⟨(fun w S args x y h => by cases h), (fun w S args x y h => by cases h)⟩
  | n + 1 => by
    have ih := szValueG_sound n
    exact ⟨sound_of_den (s := szValueFSN (n + 1)) (E := { tt := tt, fs := [szStringSFS, szRowSFS, szValueFSN n, szValueSFSN n] }) (.cons szStringS_callable szStringS_sound (.cons szRowS_callable szRowS_sound (.cons szValue_callable ih.1 (.cons szValueS_callable ih.2 (.nil tt_ok))))) mixed_ok [] (fn := Try.f154) (by kernel_rfl) fun x => szValue_den _ _ x.1 x.2, sound_of_den (s := szValueSFSN (n + 1)) (E := { tt := tt, fs := [szStringSFS, szRowSFS, szValueFSN n, szValueSFSN n] }) (.cons szStringS_callable szStringS_sound (.cons szRowS_callable szRowS_sound (.cons szValue_callable ih.1 (.cons szValueS_callable ih.2 (.nil tt_ok))))) mixed_ok [(5, { n := 27, its := [.t 0 (.ro (.list (.base .val))), .t 1 (.ro (.base .int)), .t 5 (.ro (.base .int))], boxes := [], ptrs := [] })] (fn := Try.f173) (by kernel_rfl) fun x => szValueS_den _ _ x.1 x.2⟩
theorem szValue_sound : Sound Try.prog szValueFS := fun w S args x y h => (szValueG_sound (siz (α := GVal) x.1 + 1)).1 w S args x y h
theorem szValueS_sound : Sound Try.prog szValueSFS := fun w S args x y h => (szValueG_sound (siz (α := List GVal) x.1 + 1)).2 w S args x y h
theorem szRead_callable : callable Try.prog 130 = true := by kernel_rfl
theorem szRead_den (a : GRead) (b : Int) : denF { tt := tt, fs := [szValueFS] } [] Try.f130 szReadFS.ps szReadFS.rs szReadFS.ex (a, b) = szRead a b := by kernel_rfl
theorem szRead_sound : Sound Try.prog szReadFS :=
  sound_of_den (E := { tt := tt, fs := [szValueFS] }) (.cons szValue_callable szValue_sound (.nil tt_ok)) mixed_ok [] (fn := Try.f130) (by kernel_rfl) fun x => szRead_den x.1 x.2
theorem szReadS_callable : callable Try.prog 89 = true := by kernel_rfl
theorem szReadS_den (a : List GRead) (b : Int) : denF { tt := tt, fs := [szReadFS] } [(5, { n := 27, its := [.t 0 (.ro (.list (.base .read))), .t 1 (.ro (.base .int)), .t 5 (.ro (.base .int))], boxes := [], ptrs := [] })] Try.f89 szReadSFS.ps szReadSFS.rs szReadSFS.ex (a, b) = szReadS a b := by kernel_rfl
theorem szReadS_sound : Sound Try.prog szReadSFS :=
  sound_of_den (E := { tt := tt, fs := [szReadFS] }) (.cons szRead_callable szRead_sound (.nil tt_ok)) mixed_ok [(5, { n := 27, its := [.t 0 (.ro (.list (.base .read))), .t 1 (.ro (.base .int)), .t 5 (.ro (.base .int))], boxes := [], ptrs := [] })] (fn := Try.f89) (by kernel_rfl) fun x => szReadS_den x.1 x.2
theorem szOp_callable : callable Try.prog 34 = true := by kernel_rfl
theorem szOp_den (a : GOp) (b : Int) : denF { tt := tt, fs := [szEditFS, szIntSFS, szReadSFS] } [] Try.f34 szOpFS.ps szOpFS.rs szOpFS.ex (a, b) = szOp a b := by kernel_rfl
theorem szOp_sound : Sound Try.prog szOpFS :=
  sound_of_den (E := { tt := tt, fs := [szEditFS, szIntSFS, szReadSFS] }) (.cons szEdit_callable szEdit_sound (.cons szIntS_callable szIntS_sound (.cons szReadS_callable szReadS_sound (.nil tt_ok)))) mixed_ok [] (fn := Try.f34) (by kernel_rfl) fun x => szOp_den x.1 x.2
theorem szOpS_callable : callable Try.prog 35 = true := by kernel_rfl
theorem szOpS_den (a : List GOp) (b : Int) : denF { tt := tt, fs := [szOpFS] } [(5, { n := 27, its := [.t 0 (.ro (.list (.base .op))), .t 1 (.ro (.base .int)), .t 5 (.ro (.base .int))], boxes := [], ptrs := [] })] Try.f35 szOpSFS.ps szOpSFS.rs szOpSFS.ex (a, b) = szOpS a b := by kernel_rfl
theorem szOpS_sound : Sound Try.prog szOpSFS :=
  sound_of_den (E := { tt := tt, fs := [szOpFS] }) (.cons szOp_callable szOp_sound (.nil tt_ok)) mixed_ok [(5, { n := 27, its := [.t 0 (.ro (.list (.base .op))), .t 1 (.ro (.base .int)), .t 5 (.ro (.base .int))], boxes := [], ptrs := [] })] (fn := Try.f35) (by kernel_rfl) fun x => szOpS_den x.1 x.2
theorem sCountBy_callable : callable Try.prog 91 = true := by kernel_rfl
theorem sCountBy_den (a : List GOp) (b : Int) : denF { tt := tt, fs := [] } [(3, { n := 23, its := [.t 0 (.ro (.list (.base .op))), .t 1 (.ro (.base .int)), .t 5 (.ro (.base .int)), .t 6 (.ro (.base .int))], boxes := [], ptrs := [] })] Try.f91 sCountByFS.ps sCountByFS.rs sCountByFS.ex (a, b) = sCountBy a b := by kernel_rfl
theorem sCountBy_sound : Sound Try.prog sCountByFS :=
  sound_of_den (E := { tt := tt, fs := [] }) (.nil tt_ok) mixed_ok [(3, { n := 23, its := [.t 0 (.ro (.list (.base .op))), .t 1 (.ro (.base .int)), .t 5 (.ro (.base .int)), .t 6 (.ro (.base .int))], boxes := [], ptrs := [] })] (fn := Try.f91) (by kernel_rfl) fun x => sCountBy_den x.1 x.2
theorem sHasSeen_callable : callable Try.prog 36 = true := by kernel_rfl
theorem sHasSeen_den (a : GOp) (b : List GOp) (c : Int) : denF { tt := tt, fs := [sL1InFS, sCountByFS] } [] Try.f36 sHasSeenFS.ps sHasSeenFS.rs sHasSeenFS.ex (a, b, c) = sHasSeen a b c := by kernel_rfl
theorem sHasSeen_sound : Sound Try.prog sHasSeenFS :=
  sound_of_den (E := { tt := tt, fs := [sL1InFS, sCountByFS] }) (.cons sL1In_callable sL1In_sound (.cons sCountBy_callable sCountBy_sound (.nil tt_ok))) mixed_ok [] (fn := Try.f36) (by kernel_rfl) fun x => sHasSeen_den x.1 x.2.1 x.2.2
theorem toIntS_callable : callable Try.prog 92 = true := by kernel_rfl
theorem toIntS_den (a : List Int) : denF { tt := tt, fs := [] } [(3, { n := 22, its := [.t 0 (.ro (.list (.base .int))), .t 3 (.own (.base .int) true true 0), .t 4 (.ro (.base .int))], boxes := [], ptrs := [] })] Try.f92 toIntSFS.ps toIntSFS.rs toIntSFS.ex a = toIntS a := by kernel_rfl
theorem toIntS_sound : Sound Try.prog toIntSFS :=
  sound_of_den (E := { tt := tt, fs := [] }) (.nil tt_ok) mixed_ok [(3, { n := 22, its := [.t 0 (.ro (.list (.base .int))), .t 3 (.own (.base .int) true true 0), .t 4 (.ro (.base .int))], boxes := [], ptrs := [] })] (fn := Try.f92) (by kernel_rfl) fun x => toIntS_den x
theorem toStringS_callable : callable Try.prog 177 = true := by kernel_rfl
theorem toStringS_den (a : List Str) : denF { tt := tt, fs := [] } [(3, { n := 22, its := [.t 0 (.ro (.list (.base .str))), .t 3 (.own (.base .str) true true 0), .t 4 (.ro (.base .int))], boxes := [], ptrs := [] })] Try.f177 toStringSFS.ps toStringSFS.rs toStringSFS.ex a = toStringS a := by kernel_rfl
theorem toStringS_sound : Sound Try.prog toStringSFS :=
  sound_of_den (E := { tt := tt, fs := [] }) (.nil tt_ok) mixed_ok [(3, { n := 22, its := [.t 0 (.ro (.list (.base .str))), .t 3 (.own (.base .str) true true 0), .t 4 (.ro (.base .int))], boxes := [], ptrs := [] })] (fn := Try.f177) (by kernel_rfl) fun x => toStringS_den x
theorem toOrigin_callable : callable Try.prog 197 = true := by kernel_rfl
theorem toOrigin_den (a : GOrigin) : denF { tt := tt, fs := [] } [] Try.f197 toOriginFS.ps toOriginFS.rs toOriginFS.ex a = toOrigin a := by kernel_rfl
theorem toOrigin_sound : Sound Try.prog toOriginFS :=
  sound_of_den (E := { tt := tt, fs := [] }) (.nil tt_ok) mixed_ok [] (fn := Try.f197) (by kernel_rfl) fun x => toOrigin_den x
theorem toOriginS_callable : callable Try.prog 195 = true := by kernel_rfl
theorem toOriginS_den (a : List GOrigin) : denF { tt := tt, fs := [toOriginFS] } [(3, { n := 23, its := [.t 0 (.ro (.list (.base .origin))), .t 3 (.own (.base .origin) true true 0), .t 4 (.ro (.base .int))], boxes := [], ptrs := [] })] Try.f195 toOriginSFS.ps toOriginSFS.rs toOriginSFS.ex a = toOriginS a := by kernel_rfl
theorem toOriginS_sound : Sound Try.prog toOriginSFS :=
  sound_of_den (E := { tt := tt, fs := [toOriginFS] }) (.cons toOrigin_callable toOrigin_sound (.nil tt_ok)) mixed_ok [(3, { n := 23, its := [.t 0 (.ro (.list (.base .origin))), .t 3 (.own (.base .origin) true true 0), .t 4 (.ro (.base .int))], boxes := [], ptrs := [] })] (fn := Try.f195) (by kernel_rfl) fun x => toOriginS_den x
theorem toRow_callable : callable Try.prog 192 = true := by kernel_rfl
theorem toRow_den (a : GRow) : denF { tt := tt, fs := [toIntSFS, toOriginSFS] } [] Try.f192 toRowFS.ps toRowFS.rs toRowFS.ex a = toRow a := by kernel_rfl
theorem toRow_sound : Sound Try.prog toRowFS :=
  sound_of_den (E := { tt := tt, fs := [toIntSFS, toOriginSFS] }) (.cons toIntS_callable toIntS_sound (.cons toOriginS_callable toOriginS_sound (.nil tt_ok))) mixed_ok [] (fn := Try.f192) (by kernel_rfl) fun x => toRow_den x
end Go.Proofs.Ytiedhibpaooldaa
