/- The functions compute their models, by gen.py. -/
import Derived.Test.YtopcobafmnpmkaaGreatDen0
namespace Go.Proofs.YtopcobafmnpmkaaGreat
open Go.Abs Go.Proofs
set_option maxRecDepth 100000
theorem toOriginS_callable : callable Tryz.prog 209 = true := by kernel_rfl
theorem toOriginS_den (a : List GOrigin) : denF { tt := tt, fs := [toOriginFS] } [(3, { n := 23, its := [.t 0 (.ro (.list (.base .origin))), .t 3 (.own (.base .origin) true true 0), .t 4 (.ro (.base .int))], boxes := [], ptrs := [] })] Tryz.f209 toOriginSFS.ps toOriginSFS.rs toOriginSFS.ex a = toOriginS a := by kernel_rfl
theorem toOriginS_sound : Sound Tryz.prog toOriginSFS :=
  sound_of_den (E := { tt := tt, fs := [toOriginFS] }) (.cons toOrigin_callable toOrigin_sound (.nil tt_ok)) mixed_ok [(3, { n := 23, its := [.t 0 (.ro (.list (.base .origin))), .t 3 (.own (.base .origin) true true 0), .t 4 (.ro (.base .int))], boxes := [], ptrs := [] })] (fn := Tryz.f209) (by kernel_rfl) fun x => toOriginS_den x
theorem toRow_callable : callable Tryz.prog 198 = true := by kernel_rfl
theorem toRow_den (a : GRow) : denF { tt := tt, fs := [toIntSFS, toOriginSFS] } [] Tryz.f198 toRowFS.ps toRowFS.rs toRowFS.ex a = toRow a := by kernel_rfl
theorem toRow_sound : Sound Tryz.prog toRowFS :=
  sound_of_den (E := { tt := tt, fs := [toIntSFS, toOriginSFS] }) (.cons toIntS_callable toIntS_sound (.cons toOriginS_callable toOriginS_sound (.nil tt_ok))) mixed_ok [] (fn := Tryz.f198) (by kernel_rfl) fun x => toRow_den x
theorem toRowS_callable : callable Tryz.prog 179 = true := by kernel_rfl
theorem toRowS_den (a : List GRow) : denF { tt := tt, fs := [toRowFS] } [(3, { n := 23, its := [.t 0 (.ro (.list (.base .row))), .t 3 (.own (.base .row) true true 0), .t 4 (.ro (.base .int))], boxes := [], ptrs := [] })] Tryz.f179 toRowSFS.ps toRowSFS.rs toRowSFS.ex a = toRowS a := by kernel_rfl
theorem toRowS_sound : Sound Tryz.prog toRowSFS :=
  sound_of_den (E := { tt := tt, fs := [toRowFS] }) (.cons toRow_callable toRow_sound (.nil tt_ok)) mixed_ok [(3, { n := 23, its := [.t 0 (.ro (.list (.base .row))), .t 3 (.own (.base .row) true true 0), .t 4 (.ro (.base .int))], boxes := [], ptrs := [] })] (fn := Tryz.f179) (by kernel_rfl) fun x => toRowS_den x
theorem toValue_callable : callable Tryz.prog 143 = true := by kernel_rfl
theorem toValueS_callable : callable Tryz.prog 177 = true := by kernel_rfl
theorem toValue_den (rtoValue : GVal → Option (GVal)) (rtoValueS : (List GVal) → Option ((List GVal))) (a : GVal) : denF { tt := tt, fs := [toStringSFS, toRowSFS, { fid := 143, ps := [⟨true, .base .val⟩], rs := [⟨true, .base .val⟩], ex := true, fn := fun x => rtoValue x }, { fid := 177, ps := [⟨false, .list (.base .val)⟩], rs := [⟨false, .list (.base .val)⟩], ex := true, fn := fun x => rtoValueS x }] } [] Tryz.f143 toValueFS.ps toValueFS.rs toValueFS.ex a = toValueB rtoValue rtoValueS a := by kernel_rfl
theorem toValueS_den (rtoValue : GVal → Option (GVal)) (rtoValueS : (List GVal) → Option ((List GVal))) (a : List GVal) : denF { tt := tt, fs := [toStringSFS, toRowSFS, { fid := 143, ps := [⟨true, .base .val⟩], rs := [⟨true, .base .val⟩], ex := true, fn := fun x => rtoValue x }, { fid := 177, ps := [⟨false, .list (.base .val)⟩], rs := [⟨false, .list (.base .val)⟩], ex := true, fn := fun x => rtoValueS x }] } [(3, { n := 23, its := [.t 0 (.ro (.list (.base .val))), .t 3 (.own (.base .val) true true 0), .t 4 (.ro (.base .int))], boxes := [], ptrs := [] })] Tryz.f177 toValueSFS.ps toValueSFS.rs toValueSFS.ex a = toValueSB rtoValue rtoValueS a := by kernel_rfl
theorem toValueG_sound : ∀ n, Sound Tryz.prog (toValueFSN n) ∧ Sound Tryz.prog (toValueSFSN n)
  | 0 => ⟨(fun w S args x y h => by cases h), (fun w S args x y h => by cases h)⟩
  | n + 1 => by
    have ih := toValueG_sound n
    exact ⟨sound_of_den (s := toValueFSN (n + 1)) (E := { tt := tt, fs := [toStringSFS, toRowSFS, toValueFSN n, toValueSFSN n] }) (.cons toStringS_callable toStringS_sound (.cons toRowS_callable toRowS_sound (.cons toValue_callable ih.1 (.cons toValueS_callable ih.2 (.nil tt_ok))))) mixed_ok [] (fn := Tryz.f143) (by kernel_rfl) fun x => toValue_den _ _ x, sound_of_den (s := toValueSFSN (n + 1)) (E := { tt := tt, fs := [toStringSFS, toRowSFS, toValueFSN n, toValueSFSN n] }) (.cons toStringS_callable toStringS_sound (.cons toRowS_callable toRowS_sound (.cons toValue_callable ih.1 (.cons toValueS_callable ih.2 (.nil tt_ok))))) mixed_ok [(3, { n := 23, its := [.t 0 (.ro (.list (.base .val))), .t 3 (.own (.base .val) true true 0), .t 4 (.ro (.base .int))], boxes := [], ptrs := [] })] (fn := Tryz.f177) (by kernel_rfl) fun x => toValueS_den _ _ x⟩
theorem toValue_sound : Sound Tryz.prog toValueFS := fun w S args x y h => (toValueG_sound (siz (α := GVal) x + 1)).1 w S args x y h
theorem toValueS_sound : Sound Tryz.prog toValueSFS := fun w S args x y h => (toValueG_sound (siz (α := List GVal) x + 1)).2 w S args x y h
theorem toRead_callable : callable Tryz.prog 176 = true := by kernel_rfl
theorem toRead_den (a : GRead) : denF { tt := tt, fs := [toValueFS] } [] Tryz.f176 toReadFS.ps toReadFS.rs toReadFS.ex a = toRead a := by kernel_rfl
theorem toRead_sound : Sound Tryz.prog toReadFS :=
  sound_of_den (E := { tt := tt, fs := [toValueFS] }) (.cons toValue_callable toValue_sound (.nil tt_ok)) mixed_ok [] (fn := Tryz.f176) (by kernel_rfl) fun x => toRead_den x
theorem toReadS_callable : callable Tryz.prog 141 = true := by kernel_rfl
theorem toReadS_den (a : List GRead) : denF { tt := tt, fs := [toReadFS] } [(3, { n := 23, its := [.t 0 (.ro (.list (.base .read))), .t 3 (.own (.base .read) true true 0), .t 4 (.ro (.base .int))], boxes := [], ptrs := [] })] Tryz.f141 toReadSFS.ps toReadSFS.rs toReadSFS.ex a = toReadS a := by kernel_rfl
theorem toReadS_sound : Sound Tryz.prog toReadSFS :=
  sound_of_den (E := { tt := tt, fs := [toReadFS] }) (.cons toRead_callable toRead_sound (.nil tt_ok)) mixed_ok [(3, { n := 23, its := [.t 0 (.ro (.list (.base .read))), .t 3 (.own (.base .read) true true 0), .t 4 (.ro (.base .int))], boxes := [], ptrs := [] })] (fn := Tryz.f141) (by kernel_rfl) fun x => toReadS_den x
theorem toTape_callable : callable Tryz.prog 86 = true := by kernel_rfl
theorem toTape_den (a : GTape) : denF { tt := tt, fs := [toReadSFS] } [] Tryz.f86 toTapeFS.ps toTapeFS.rs toTapeFS.ex a = toTape a := by kernel_rfl
theorem toTape_sound : Sound Tryz.prog toTapeFS :=
  sound_of_den (E := { tt := tt, fs := [toReadSFS] }) (.cons toReadS_callable toReadS_sound (.nil tt_ok)) mixed_ok [] (fn := Tryz.f86) (by kernel_rfl) fun x => toTape_den x
theorem toTapeS_callable : callable Tryz.prog 36 = true := by kernel_rfl
theorem toTapeS_den (a : List GTape) : denF { tt := tt, fs := [toTapeFS] } [(3, { n := 23, its := [.t 0 (.ro (.list (.base .tape))), .t 3 (.own (.base .tape) true true 0), .t 4 (.ro (.base .int))], boxes := [], ptrs := [] })] Tryz.f36 toTapeSFS.ps toTapeSFS.rs toTapeSFS.ex a = toTapeS a := by kernel_rfl
theorem toTapeS_sound : Sound Tryz.prog toTapeSFS :=
  sound_of_den (E := { tt := tt, fs := [toTapeFS] }) (.cons toTape_callable toTape_sound (.nil tt_ok)) mixed_ok [(3, { n := 23, its := [.t 0 (.ro (.list (.base .tape))), .t 3 (.own (.base .tape) true true 0), .t 4 (.ro (.base .int))], boxes := [], ptrs := [] })] (fn := Tryz.f36) (by kernel_rfl) fun x => toTapeS_den x
theorem toEntry_callable : callable Tryz.prog 87 = true := by kernel_rfl
theorem toEntry_den (a : GEntry) : denF { tt := tt, fs := [toIntSFS, toValueFS] } [] Tryz.f87 toEntryFS.ps toEntryFS.rs toEntryFS.ex a = toEntry a := by kernel_rfl
theorem toEntry_sound : Sound Tryz.prog toEntryFS :=
  sound_of_den (E := { tt := tt, fs := [toIntSFS, toValueFS] }) (.cons toIntS_callable toIntS_sound (.cons toValue_callable toValue_sound (.nil tt_ok))) mixed_ok [] (fn := Tryz.f87) (by kernel_rfl) fun x => toEntry_den x
theorem toEntryS_callable : callable Tryz.prog 37 = true := by kernel_rfl
theorem toEntryS_den (a : List GEntry) : denF { tt := tt, fs := [toEntryFS] } [(3, { n := 23, its := [.t 0 (.ro (.list (.base .entry))), .t 3 (.own (.base .entry) true true 0), .t 4 (.ro (.base .int))], boxes := [], ptrs := [] })] Tryz.f37 toEntrySFS.ps toEntrySFS.rs toEntrySFS.ex a = toEntryS a := by kernel_rfl
theorem toEntryS_sound : Sound Tryz.prog toEntrySFS :=
  sound_of_den (E := { tt := tt, fs := [toEntryFS] }) (.cons toEntry_callable toEntry_sound (.nil tt_ok)) mixed_ok [(3, { n := 23, its := [.t 0 (.ro (.list (.base .entry))), .t 3 (.own (.base .entry) true true 0), .t 4 (.ro (.base .int))], boxes := [], ptrs := [] })] (fn := Tryz.f37) (by kernel_rfl) fun x => toEntryS_den x
theorem toEngine_callable : callable Tryz.prog 8 = true := by kernel_rfl
theorem toEngine_den (a : GEngine) : denF { tt := tt, fs := [toNotebookFS, toWorldFS, toTapeSFS, toEntrySFS] } [] Tryz.f8 toEngineFS.ps toEngineFS.rs toEngineFS.ex a = toEngine a := by kernel_rfl
theorem toEngine_sound : Sound Tryz.prog toEngineFS :=
  sound_of_den (E := { tt := tt, fs := [toNotebookFS, toWorldFS, toTapeSFS, toEntrySFS] }) (.cons toNotebook_callable toNotebook_sound (.cons toWorld_callable toWorld_sound (.cons toTapeS_callable toTapeS_sound (.cons toEntryS_callable toEntryS_sound (.nil tt_ok))))) mixed_ok [] (fn := Tryz.f8) (by kernel_rfl) fun x => toEngine_den x
theorem toEdit_callable : callable Tryz.prog 38 = true := by kernel_rfl
theorem toEdit_den (a : GEdit) : denF { tt := tt, fs := [toCellFS] } [] Tryz.f38 toEditFS.ps toEditFS.rs toEditFS.ex a = toEdit a := by kernel_rfl
theorem toEdit_sound : Sound Tryz.prog toEditFS :=
  sound_of_den (E := { tt := tt, fs := [toCellFS] }) (.cons toCell_callable toCell_sound (.nil tt_ok)) mixed_ok [] (fn := Tryz.f38) (by kernel_rfl) fun x => toEdit_den x
theorem toEditS_callable : callable Tryz.prog 9 = true := by kernel_rfl
theorem toEditS_den (a : List GEdit) : denF { tt := tt, fs := [toEditFS] } [(3, { n := 23, its := [.t 0 (.ro (.list (.base .edit))), .t 3 (.own (.base .edit) true true 0), .t 4 (.ro (.base .int))], boxes := [], ptrs := [] })] Tryz.f9 toEditSFS.ps toEditSFS.rs toEditSFS.ex a = toEditS a := by kernel_rfl
theorem toEditS_sound : Sound Tryz.prog toEditSFS :=
  sound_of_den (E := { tt := tt, fs := [toEditFS] }) (.cons toEdit_callable toEdit_sound (.nil tt_ok)) mixed_ok [(3, { n := 23, its := [.t 0 (.ro (.list (.base .edit))), .t 3 (.own (.base .edit) true true 0), .t 4 (.ro (.base .int))], boxes := [], ptrs := [] })] (fn := Tryz.f9) (by kernel_rfl) fun x => toEditS_den x
theorem iCopyNotebook_callable : callable Tryz.prog 89 = true := by kernel_rfl
theorem iCopyNotebook_den (a : GNotebook) : denF { tt := tt, fs := [] } [] Tryz.f89 iCopyNotebookFS.ps iCopyNotebookFS.rs iCopyNotebookFS.ex a = iCopyNotebook a := by kernel_rfl
theorem iCopyNotebook_sound : Sound Tryz.prog iCopyNotebookFS :=
  sound_of_den (E := { tt := tt, fs := [] }) (.nil tt_ok) mixed_ok [] (fn := Tryz.f89) (by kernel_rfl) fun x => iCopyNotebook_den x
theorem iWithin_callable : callable Tryz.prog 120 = true := by kernel_rfl
theorem iWithin_den (a : Int) (b : Int) (c : Int) : denF { tt := tt, fs := [] } [] Tryz.f120 iWithinFS.ps iWithinFS.rs iWithinFS.ex (a, b, c) = iWithin a b c := by kernel_rfl
theorem iWithin_sound : Sound Tryz.prog iWithinFS :=
  sound_of_den (E := { tt := tt, fs := [] }) (.nil tt_ok) mixed_ok [] (fn := Tryz.f120) (by kernel_rfl) fun x => iWithin_den x.1 x.2.1 x.2.2
theorem iCellIndex_callable : callable Tryz.prog 148 = true := by kernel_rfl
theorem iCellIndex_den (a : GNotebook) (b : Int) : denF { tt := tt, fs := [] } [(2, { n := 21, its := [.t 1 (.ro (.base .int)), .t 8 (.ro (.list (.base .cell))), .t 9 (.ro (.base .int)), .t 10 (.ro (.base .int))], boxes := [], ptrs := [] })] Tryz.f148 iCellIndexFS.ps iCellIndexFS.rs iCellIndexFS.ex (a, b) = iCellIndex a b := by kernel_rfl
theorem iCellIndex_sound : Sound Tryz.prog iCellIndexFS :=
  sound_of_den (E := { tt := tt, fs := [] }) (.nil tt_ok) mixed_ok [(2, { n := 21, its := [.t 1 (.ro (.base .int)), .t 8 (.ro (.list (.base .cell))), .t 9 (.ro (.base .int)), .t 10 (.ro (.base .int))], boxes := [], ptrs := [] })] (fn := Tryz.f148) (by kernel_rfl) fun x => iCellIndex_den x.1 x.2
theorem iIsPrintable_callable : callable Tryz.prog 199 = true := by kernel_rfl
theorem iIsPrintable_den (a : Str) : denF { tt := tt, fs := [] } [(2, { n := 23, its := [.t 0 (.ro (.base .str)), .t 3 (.ro (.base .int))], boxes := [], ptrs := [] })] Tryz.f199 iIsPrintableFS.ps iIsPrintableFS.rs iIsPrintableFS.ex a = iIsPrintable a := by kernel_rfl
theorem iIsPrintable_sound : Sound Tryz.prog iIsPrintableFS :=
  sound_of_den (E := { tt := tt, fs := [] }) (.nil tt_ok) mixed_ok [(2, { n := 23, its := [.t 0 (.ro (.base .str)), .t 3 (.ro (.base .int))], boxes := [], ptrs := [] })] (fn := Tryz.f199) (by kernel_rfl) fun x => iIsPrintable_den x
theorem iIsWord_callable : callable Tryz.prog 210 = true := by kernel_rfl
theorem iIsWord_den (a : Str) : denF { tt := tt, fs := [iWithinFS] } [(2, { n := 42, its := [.t 0 (.ro (.base .str)), .t 3 (.ro (.base .int))], boxes := [], ptrs := [] })] Tryz.f210 iIsWordFS.ps iIsWordFS.rs iIsWordFS.ex a = iIsWord a := by kernel_rfl
theorem iIsWord_sound : Sound Tryz.prog iIsWordFS :=
  sound_of_den (E := { tt := tt, fs := [iWithinFS] }) (.cons iWithin_callable iWithin_sound (.nil tt_ok)) mixed_ok [(2, { n := 42, its := [.t 0 (.ro (.base .str)), .t 3 (.ro (.base .int))], boxes := [], ptrs := [] })] (fn := Tryz.f210) (by kernel_rfl) fun x => iIsWord_den x
theorem iArgumentCount_callable : callable Tryz.prog 227 = true := by kernel_rfl
theorem iArgumentCount_den (a : Str) : denF { tt := tt, fs := [] } [] Tryz.f227 iArgumentCountFS.ps iArgumentCountFS.rs iArgumentCountFS.ex a = iArgumentCount a := by kernel_rfl
theorem iArgumentCount_sound : Sound Tryz.prog iArgumentCountFS :=
  sound_of_den (E := { tt := tt, fs := [] }) (.nil tt_ok) mixed_ok [] (fn := Tryz.f227) (by kernel_rfl) fun x => iArgumentCount_den x
theorem iIsReserved_callable : callable Tryz.prog 211 = true := by kernel_rfl
theorem iIsReserved_den (a : Str) : denF { tt := tt, fs := [iArgumentCountFS] } [] Tryz.f211 iIsReservedFS.ps iIsReservedFS.rs iIsReservedFS.ex a = iIsReserved a := by kernel_rfl
theorem iIsReserved_sound : Sound Tryz.prog iIsReservedFS :=
  sound_of_den (E := { tt := tt, fs := [iArgumentCountFS] }) (.cons iArgumentCount_callable iArgumentCount_sound (.nil tt_ok)) mixed_ok [] (fn := Tryz.f211) (by kernel_rfl) fun x => iIsReserved_den x
theorem iIsValidName_callable : callable Tryz.prog 200 = true := by kernel_rfl
theorem iIsValidName_den (a : Str) : denF { tt := tt, fs := [iIsWordFS, iIsReservedFS] } [] Tryz.f200 iIsValidNameFS.ps iIsValidNameFS.rs iIsValidNameFS.ex a = iIsValidName a := by kernel_rfl
theorem iIsValidName_sound : Sound Tryz.prog iIsValidNameFS :=
  sound_of_den (E := { tt := tt, fs := [iIsWordFS, iIsReservedFS] }) (.cons iIsWord_callable iIsWord_sound (.cons iIsReserved_callable iIsReserved_sound (.nil tt_ok))) mixed_ok [] (fn := Tryz.f200) (by kernel_rfl) fun x => iIsValidName_den x
theorem iIsValidCell_callable : callable Tryz.prog 180 = true := by kernel_rfl
theorem iIsValidCell_den (a : GCell) : denF { tt := tt, fs := [iWithinFS, iIsPrintableFS, iIsValidNameFS] } [] Tryz.f180 iIsValidCellFS.ps iIsValidCellFS.rs iIsValidCellFS.ex a = iIsValidCell a := by kernel_rfl
theorem iIsValidCell_sound : Sound Tryz.prog iIsValidCellFS :=
  sound_of_den (E := { tt := tt, fs := [iWithinFS, iIsPrintableFS, iIsValidNameFS] }) (.cons iWithin_callable iWithin_sound (.cons iIsPrintable_callable iIsPrintable_sound (.cons iIsValidName_callable iIsValidName_sound (.nil tt_ok)))) mixed_ok [] (fn := Tryz.f180) (by kernel_rfl) fun x => iIsValidCell_den x
theorem iIsValidNotebook_callable : callable Tryz.prog 144 = true := by kernel_rfl
theorem iIsValidNotebook_den (a : GNotebook) : denF { tt := tt, fs := [iCellIndexFS, iIsValidCellFS] } [(2, { n := 29, its := [.b 1 0 (.ro (.list (.base .cell))), .t 6 (.ro (.list (.base .cell))), .t 7 (.ro (.base .int)), .t 8 (.ro (.base .int))], boxes := [(1, 1)], ptrs := [(1, 1, 0)] })] Tryz.f144 iIsValidNotebookFS.ps iIsValidNotebookFS.rs iIsValidNotebookFS.ex a = iIsValidNotebook a := by kernel_rfl
theorem iIsValidNotebook_sound : Sound Tryz.prog iIsValidNotebookFS :=
  sound_of_den (E := { tt := tt, fs := [iCellIndexFS, iIsValidCellFS] }) (.cons iCellIndex_callable iCellIndex_sound (.cons iIsValidCell_callable iIsValidCell_sound (.nil tt_ok))) mixed_ok [(2, { n := 29, its := [.b 1 0 (.ro (.list (.base .cell))), .t 6 (.ro (.list (.base .cell))), .t 7 (.ro (.base .int)), .t 8 (.ro (.base .int))], boxes := [(1, 1)], ptrs := [(1, 1, 0)] })] (fn := Tryz.f144) (by kernel_rfl) fun x => iIsValidNotebook_den x
theorem iInserted_callable : callable Tryz.prog 181 = true := by kernel_rfl
theorem iInserted_den (a : List GCell) (b : Int) (c : GCell) : denF { tt := tt, fs := [] } [] Tryz.f181 iInsertedFS.ps iInsertedFS.rs iInsertedFS.ex (a, b, c) = iInserted a b c := by kernel_rfl
theorem iInserted_sound : Sound Tryz.prog iInsertedFS :=
  sound_of_den (E := { tt := tt, fs := [] }) (.nil tt_ok) mixed_ok [] (fn := Tryz.f181) (by kernel_rfl) fun x => iInserted_den x.1 x.2.1 x.2.2
theorem iRemoved_callable : callable Tryz.prog 182 = true := by kernel_rfl
theorem iRemoved_den (a : List GCell) (b : Int) : denF { tt := tt, fs := [] } [] Tryz.f182 iRemovedFS.ps iRemovedFS.rs iRemovedFS.ex (a, b) = iRemoved a b := by kernel_rfl
theorem iRemoved_sound : Sound Tryz.prog iRemovedFS :=
  sound_of_den (E := { tt := tt, fs := [] }) (.nil tt_ok) mixed_ok [] (fn := Tryz.f182) (by kernel_rfl) fun x => iRemoved_den x.1 x.2
theorem iChange_callable : callable Tryz.prog 145 = true := by kernel_rfl
theorem iChange_den (a : GNotebook) (b : GEdit) : denF { tt := tt, fs := [iCopyNotebookFS, iCellIndexFS, iIsValidCellFS, iInsertedFS, iRemovedFS] } [] Tryz.f145 iChangeFS.ps iChangeFS.rs iChangeFS.ex (a, b) = iChange a b := by kernel_rfl
theorem iChange_sound : Sound Tryz.prog iChangeFS :=
  sound_of_den (E := { tt := tt, fs := [iCopyNotebookFS, iCellIndexFS, iIsValidCellFS, iInsertedFS, iRemovedFS] }) (.cons iCopyNotebook_callable iCopyNotebook_sound (.cons iCellIndex_callable iCellIndex_sound (.cons iIsValidCell_callable iIsValidCell_sound (.cons iInserted_callable iInserted_sound (.cons iRemoved_callable iRemoved_sound (.nil tt_ok)))))) mixed_ok [] (fn := Tryz.f145) (by kernel_rfl) fun x => iChange_den x.1 x.2
theorem iApplyEdit_callable : callable Tryz.prog 90 = true := by kernel_rfl
theorem iApplyEdit_den (a : GNotebook) (b : GEdit) : denF { tt := tt, fs := [iCopyNotebookFS, iWithinFS, iIsValidNotebookFS, iChangeFS] } [] Tryz.f90 iApplyEditFS.ps iApplyEditFS.rs iApplyEditFS.ex (a, b) = iApplyEdit a b := by kernel_rfl
theorem iApplyEdit_sound : Sound Tryz.prog iApplyEditFS :=
  sound_of_den (E := { tt := tt, fs := [iCopyNotebookFS, iWithinFS, iIsValidNotebookFS, iChangeFS] }) (.cons iCopyNotebook_callable iCopyNotebook_sound (.cons iWithin_callable iWithin_sound (.cons iIsValidNotebook_callable iIsValidNotebook_sound (.cons iChange_callable iChange_sound (.nil tt_ok))))) mixed_ok [] (fn := Tryz.f90) (by kernel_rfl) fun x => iApplyEdit_den x.1 x.2
theorem iApplyBatch_callable : callable Tryz.prog 39 = true := by kernel_rfl
theorem iApplyBatch_den (a : GNotebook) (b : List GEdit) : denF { tt := tt, fs := [iCopyNotebookFS, iApplyEditFS] } [(3, { n := 34, its := [.b 2 0 (.ro (.list (.base .cell))), .b 4 0 (.own (.base .cell) true true 0), .b 6 0 (.own (.base .cell) true true 1), .t 13 (.ro (.list (.base .edit))), .t 14 (.ro (.base .int)), .t 15 (.ro (.base .int))], boxes := [(2, 1), (4, 1), (6, 1)], ptrs := [(2, 2, 0), (4, 4, 0), (6, 6, 0)] })] Tryz.f39 iApplyBatchFS.ps iApplyBatchFS.rs iApplyBatchFS.ex (a, b) = iApplyBatch a b := by kernel_rfl
theorem iApplyBatch_sound : Sound Tryz.prog iApplyBatchFS :=
  sound_of_den (E := { tt := tt, fs := [iCopyNotebookFS, iApplyEditFS] }) (.cons iCopyNotebook_callable iCopyNotebook_sound (.cons iApplyEdit_callable iApplyEdit_sound (.nil tt_ok))) mixed_ok [(3, { n := 34, its := [.b 2 0 (.ro (.list (.base .cell))), .b 4 0 (.own (.base .cell) true true 0), .b 6 0 (.own (.base .cell) true true 1), .t 13 (.ro (.list (.base .edit))), .t 14 (.ro (.base .int)), .t 15 (.ro (.base .int))], boxes := [(2, 1), (4, 1), (6, 1)], ptrs := [(2, 2, 0), (4, 4, 0), (6, 6, 0)] })] (fn := Tryz.f39) (by kernel_rfl) fun x => iApplyBatch_den x.1 x.2
theorem iCopyWorld_callable : callable Tryz.prog 91 = true := by kernel_rfl
theorem iCopyWorld_den (a : GWorld) : denF { tt := tt, fs := [] } [] Tryz.f91 iCopyWorldFS.ps iCopyWorldFS.rs iCopyWorldFS.ex a = iCopyWorld a := by kernel_rfl
theorem iCopyWorld_sound : Sound Tryz.prog iCopyWorldFS :=
  sound_of_den (E := { tt := tt, fs := [] }) (.nil tt_ok) mixed_ok [] (fn := Tryz.f91) (by kernel_rfl) fun x => iCopyWorld_den x
theorem iCopyRow_callable : callable Tryz.prog 147 = true := by kernel_rfl
theorem iCopyRow_den (a : GRow) : denF { tt := tt, fs := [] } [] Tryz.f147 iCopyRowFS.ps iCopyRowFS.rs iCopyRowFS.ex a = iCopyRow a := by kernel_rfl
theorem iCopyRow_sound : Sound Tryz.prog iCopyRowFS :=
  sound_of_den (E := { tt := tt, fs := [] }) (.nil tt_ok) mixed_ok [] (fn := Tryz.f147) (by kernel_rfl) fun x => iCopyRow_den x
theorem iCopyValue_callable : callable Tryz.prog 93 = true := by kernel_rfl
theorem iCopyValues_callable : callable Tryz.prog 146 = true := by kernel_rfl
theorem iCopyValue_den (riCopyValue : GVal → Option (GVal)) (riCopyValues : (List GVal) → Option ((List GVal))) (a : GVal) : denF { tt := tt, fs := [iCopyRowFS, { fid := 93, ps := [⟨true, .base .val⟩], rs := [⟨true, .base .val⟩], ex := true, fn := fun x => riCopyValue x }, { fid := 146, ps := [⟨false, .list (.base .val)⟩], rs := [⟨false, .list (.base .val)⟩], ex := true, fn := fun x => riCopyValues x }] } [(6, { n := 33, its := [.b 2 0 (.ro (.base .int)), .b 2 1 (.ro (.base .int)), .b 2 2 (.ro (.base .int)), .b 2 3 (.ro (.base .str)), .b 2 4 (.own (.base .val) true true 0), .b 2 5 (.own (.base .str) true true 4), .b 2 6 (.own (.base .row) true true 6), .b 3 0 (.ro (.base .int)), .b 3 1 (.ro (.base .int)), .b 3 2 (.ro (.base .int)), .b 3 3 (.ro (.base .str)), .b 3 4 (.own (.base .val) true true 7), .b 3 5 (.own (.base .str) true true 8), .b 3 6 (.own (.base .row) true true 10), .t 18 (.ro (.list (.base .row))), .t 19 (.ro (.base .int)), .t 20 (.ro (.base .int))], boxes := [(2, 7), (3, 7)], ptrs := [(2, 2, 0), (3, 3, 0)] })] Tryz.f93 iCopyValueFS.ps iCopyValueFS.rs iCopyValueFS.ex a = iCopyValueB riCopyValue riCopyValues a := by kernel_rfl
theorem iCopyValues_den (riCopyValue : GVal → Option (GVal)) (riCopyValues : (List GVal) → Option ((List GVal))) (a : List GVal) : denF { tt := tt, fs := [iCopyRowFS, { fid := 93, ps := [⟨true, .base .val⟩], rs := [⟨true, .base .val⟩], ex := true, fn := fun x => riCopyValue x }, { fid := 146, ps := [⟨false, .list (.base .val)⟩], rs := [⟨false, .list (.base .val)⟩], ex := true, fn := fun x => riCopyValues x }] } [(3, { n := 20, its := [.t 3 (.own (.base .val) true true 0), .t 7 (.ro (.list (.base .val))), .t 8 (.ro (.base .int)), .t 9 (.ro (.base .int))], boxes := [], ptrs := [] })] Tryz.f146 iCopyValuesFS.ps iCopyValuesFS.rs iCopyValuesFS.ex a = iCopyValuesB riCopyValue riCopyValues a := by kernel_rfl
theorem iCopyValueG_sound : ∀ n, Sound Tryz.prog (iCopyValueFSN n) ∧ Sound Tryz.prog (iCopyValuesFSN n)
  | 0 => ⟨(fun w S args x y h => by cases h), (fun w S args x y h => by cases h)⟩
  | n + 1 => by
    have ih := iCopyValueG_sound n
    exact ⟨sound_of_den (s := iCopyValueFSN (n + 1)) (E := { tt := tt, fs := [iCopyRowFS, iCopyValueFSN n, iCopyValuesFSN n] }) (.cons iCopyRow_callable iCopyRow_sound (.cons iCopyValue_callable ih.1 (.cons iCopyValues_callable ih.2 (.nil tt_ok)))) mixed_ok [(6, { n := 33, its := [.b 2 0 (.ro (.base .int)), .b 2 1 (.ro (.base .int)), .b 2 2 (.ro (.base .int)), .b 2 3 (.ro (.base .str)), .b 2 4 (.own (.base .val) true true 0), .b 2 5 (.own (.base .str) true true 4), .b 2 6 (.own (.base .row) true true 6), .b 3 0 (.ro (.base .int)), .b 3 1 (.ro (.base .int)), .b 3 2 (.ro (.base .int)), .b 3 3 (.ro (.base .str)), .b 3 4 (.own (.base .val) true true 7), .b 3 5 (.own (.base .str) true true 8), .b 3 6 (.own (.base .row) true true 10), .t 18 (.ro (.list (.base .row))), .t 19 (.ro (.base .int)), .t 20 (.ro (.base .int))], boxes := [(2, 7), (3, 7)], ptrs := [(2, 2, 0), (3, 3, 0)] })] (fn := Tryz.f93) (by kernel_rfl) fun x => iCopyValue_den _ _ x, sound_of_den (s := iCopyValuesFSN (n + 1)) (E := { tt := tt, fs := [iCopyRowFS, iCopyValueFSN n, iCopyValuesFSN n] }) (.cons iCopyRow_callable iCopyRow_sound (.cons iCopyValue_callable ih.1 (.cons iCopyValues_callable ih.2 (.nil tt_ok)))) mixed_ok [(3, { n := 20, its := [.t 3 (.own (.base .val) true true 0), .t 7 (.ro (.list (.base .val))), .t 8 (.ro (.base .int)), .t 9 (.ro (.base .int))], boxes := [], ptrs := [] })] (fn := Tryz.f146) (by kernel_rfl) fun x => iCopyValues_den _ _ x⟩
theorem iCopyValue_sound : Sound Tryz.prog iCopyValueFS := fun w S args x y h => (iCopyValueG_sound (siz (α := GVal) x + 1)).1 w S args x y h
theorem iCopyValues_sound : Sound Tryz.prog iCopyValuesFS := fun w S args x y h => (iCopyValueG_sound (siz (α := List GVal) x + 1)).2 w S args x y h
theorem iCopyReads_callable : callable Tryz.prog 122 = true := by kernel_rfl
theorem iCopyReads_den (a : List GRead) : denF { tt := tt, fs := [iCopyValueFS] } [(3, { n := 23, its := [.t 3 (.own (.base .read) true true 0), .t 7 (.ro (.list (.base .read))), .t 8 (.ro (.base .int)), .t 9 (.ro (.base .int))], boxes := [], ptrs := [] })] Tryz.f122 iCopyReadsFS.ps iCopyReadsFS.rs iCopyReadsFS.ex a = iCopyReads a := by kernel_rfl
theorem iCopyReads_sound : Sound Tryz.prog iCopyReadsFS :=
  sound_of_den (E := { tt := tt, fs := [iCopyValueFS] }) (.cons iCopyValue_callable iCopyValue_sound (.nil tt_ok)) mixed_ok [(3, { n := 23, its := [.t 3 (.own (.base .read) true true 0), .t 7 (.ro (.list (.base .read))), .t 8 (.ro (.base .int)), .t 9 (.ro (.base .int))], boxes := [], ptrs := [] })] (fn := Tryz.f122) (by kernel_rfl) fun x => iCopyReads_den x
theorem iCopyTapes_callable : callable Tryz.prog 92 = true := by kernel_rfl
theorem iCopyTapes_den (a : List GTape) : denF { tt := tt, fs := [iCopyReadsFS] } [(3, { n := 26, its := [.t 3 (.own (.base .tape) true true 0), .t 7 (.ro (.list (.base .tape))), .t 8 (.ro (.base .int)), .t 9 (.ro (.base .int))], boxes := [], ptrs := [] })] Tryz.f92 iCopyTapesFS.ps iCopyTapesFS.rs iCopyTapesFS.ex a = iCopyTapes a := by kernel_rfl
theorem iCopyTapes_sound : Sound Tryz.prog iCopyTapesFS :=
  sound_of_den (E := { tt := tt, fs := [iCopyReadsFS] }) (.cons iCopyReads_callable iCopyReads_sound (.nil tt_ok)) mixed_ok [(3, { n := 26, its := [.t 3 (.own (.base .tape) true true 0), .t 7 (.ro (.list (.base .tape))), .t 8 (.ro (.base .int)), .t 9 (.ro (.base .int))], boxes := [], ptrs := [] })] (fn := Tryz.f92) (by kernel_rfl) fun x => iCopyTapes_den x
theorem iCopyEngine_callable : callable Tryz.prog 40 = true := by kernel_rfl
theorem iCopyEngine_den (a : GEngine) : denF { tt := tt, fs := [iCopyNotebookFS, iCopyWorldFS, iCopyTapesFS, iCopyValueFS] } [(7, { n := 44, its := [.b 2 0 (.own (.base .cell) true true 0), .b 2 1 (.ro (.base .int)), .b 2 2 (.ro (.base .int)), .b 2 3 (.own (.base .file) true true 4), .b 2 4 (.own (.base .tape) true true 6), .b 2 5 (.own (.base .entry) true true 7), .b 2 6 (.ro (.base .int)), .b 2 7 (.ro (.base .int)), .b 2 8 (.ro (.base .int)), .b 3 0 (.own (.base .cell) true true 8), .b 3 1 (.ro (.base .int)), .b 3 2 (.ro (.base .int)), .b 3 3 (.own (.base .file) true true 10), .b 3 4 (.own (.base .tape) true true 11), .b 3 5 (.own (.base .entry) true true 12), .b 3 6 (.ro (.base .int)), .b 3 7 (.ro (.base .int)), .b 3 8 (.ro (.base .int)), .t 21 (.ro (.list (.base .entry))), .t 22 (.ro (.base .int)), .t 23 (.ro (.base .int))], boxes := [(2, 9), (3, 9)], ptrs := [(2, 2, 0), (3, 3, 0)] })] Tryz.f40 iCopyEngineFS.ps iCopyEngineFS.rs iCopyEngineFS.ex a = iCopyEngine a := by kernel_rfl
theorem iCopyEngine_sound : Sound Tryz.prog iCopyEngineFS :=
  sound_of_den (E := { tt := tt, fs := [iCopyNotebookFS, iCopyWorldFS, iCopyTapesFS, iCopyValueFS] }) (.cons iCopyNotebook_callable iCopyNotebook_sound (.cons iCopyWorld_callable iCopyWorld_sound (.cons iCopyTapes_callable iCopyTapes_sound (.cons iCopyValue_callable iCopyValue_sound (.nil tt_ok))))) mixed_ok [(7, { n := 44, its := [.b 2 0 (.own (.base .cell) true true 0), .b 2 1 (.ro (.base .int)), .b 2 2 (.ro (.base .int)), .b 2 3 (.own (.base .file) true true 4), .b 2 4 (.own (.base .tape) true true 6), .b 2 5 (.own (.base .entry) true true 7), .b 2 6 (.ro (.base .int)), .b 2 7 (.ro (.base .int)), .b 2 8 (.ro (.base .int)), .b 3 0 (.own (.base .cell) true true 8), .b 3 1 (.ro (.base .int)), .b 3 2 (.ro (.base .int)), .b 3 3 (.own (.base .file) true true 10), .b 3 4 (.own (.base .tape) true true 11), .b 3 5 (.own (.base .entry) true true 12), .b 3 6 (.ro (.base .int)), .b 3 7 (.ro (.base .int)), .b 3 8 (.ro (.base .int)), .t 21 (.ro (.list (.base .entry))), .t 22 (.ro (.base .int)), .t 23 (.ro (.base .int))], boxes := [(2, 9), (3, 9)], ptrs := [(2, 2, 0), (3, 3, 0)] })] (fn := Tryz.f40) (by kernel_rfl) fun x => iCopyEngine_den x
theorem iEditEngine_callable : callable Tryz.prog 94 = true := by kernel_rfl
theorem iEditEngine_den (a : GEngine) (b : GEdit) : denF { tt := tt, fs := [iCopyEngineFS, iApplyEditFS, iCellIndexFS], trees := true } [(8, { n := 48, its := [.b 4 0 (.own (.base .cell) true true 0), .b 4 1 (.ro (.base .int)), .b 4 2 (.ro (.base .int)), .b 4 3 (.own (.base .file) true true 1), .b 4 4 (.own (.base .tape) true true 5), .b 4 5 (.own (.base .entry) true true 8), .b 4 6 (.ro (.base .int)), .b 4 7 (.ro (.base .int)), .b 4 8 (.ro (.base .int)), .b 6 0 (.own (.base .cell) true true 9), .b 6 1 (.ro (.base .int)), .b 6 2 (.ro (.base .int)), .b 6 3 (.own (.base .file) true true 10), .b 6 4 (.own (.base .tape) true true 12), .b 6 5 (.part (.base .entry) 14), .b 6 6 (.ro (.base .int)), .b 6 7 (.ro (.base .int)), .b 6 8 (.ro (.base .int)), .t 9 (.own (.base .entry) true true 15), .t 30 (.ro (.base .int)), .t 31 (.ro (.base .int))], boxes := [(4, 9), (6, 9), (7, 1)], ptrs := [(4, 4, 0), (6, 6, 0), (7, 7, 0)], als := [(29, 6, 5)], bls := [(7, 0, 6, 0)] })] Tryz.f94 iEditEngineFS.ps iEditEngineFS.rs iEditEngineFS.ex (a, b) = iEditEngine a b := by kernel_rfl
theorem iEditEngine_sound : Sound Tryz.prog iEditEngineFS :=
  sound_of_den (E := { tt := tt, fs := [iCopyEngineFS, iApplyEditFS, iCellIndexFS], trees := true }) (.cons iCopyEngine_callable iCopyEngine_sound (.cons iApplyEdit_callable iApplyEdit_sound (.cons iCellIndex_callable iCellIndex_sound (.nil tt_ok)))) mixed_ok [(8, { n := 48, its := [.b 4 0 (.own (.base .cell) true true 0), .b 4 1 (.ro (.base .int)), .b 4 2 (.ro (.base .int)), .b 4 3 (.own (.base .file) true true 1), .b 4 4 (.own (.base .tape) true true 5), .b 4 5 (.own (.base .entry) true true 8), .b 4 6 (.ro (.base .int)), .b 4 7 (.ro (.base .int)), .b 4 8 (.ro (.base .int)), .b 6 0 (.own (.base .cell) true true 9), .b 6 1 (.ro (.base .int)), .b 6 2 (.ro (.base .int)), .b 6 3 (.own (.base .file) true true 10), .b 6 4 (.own (.base .tape) true true 12), .b 6 5 (.part (.base .entry) 14), .b 6 6 (.ro (.base .int)), .b 6 7 (.ro (.base .int)), .b 6 8 (.ro (.base .int)), .t 9 (.own (.base .entry) true true 15), .t 30 (.ro (.base .int)), .t 31 (.ro (.base .int))], boxes := [(4, 9), (6, 9), (7, 1)], ptrs := [(4, 4, 0), (6, 6, 0), (7, 7, 0)], als := [(29, 6, 5)], bls := [(7, 0, 6, 0)] })] (fn := Tryz.f94) (by kernel_rfl) fun x => iEditEngine_den x.1 x.2
theorem iEditEngineAll_callable : callable Tryz.prog 41 = true := by kernel_rfl
theorem iEditEngineAll_den (a : GEngine) (b : List GEdit) : denF { tt := tt, fs := [iCopyEngineFS, iEditEngineFS] } [(4, { n := 35, its := [.b 4 0 (.own (.base .cell) true true 0), .b 4 1 (.ro (.base .int)), .b 4 2 (.ro (.base .int)), .b 4 3 (.own (.base .file) true true 1), .b 4 4 (.own (.base .tape) true true 3), .b 4 5 (.own (.base .entry) true true 5), .b 4 6 (.ro (.base .int)), .b 4 7 (.ro (.base .int)), .b 4 8 (.ro (.base .int)), .b 6 0 (.own (.base .cell) true true 7), .b 6 1 (.ro (.base .int)), .b 6 2 (.ro (.base .int)), .b 6 3 (.own (.base .file) true true 8), .b 6 4 (.own (.base .tape) true true 11), .b 6 5 (.own (.base .entry) true true 12), .b 6 6 (.ro (.base .int)), .b 6 7 (.ro (.base .int)), .b 6 8 (.ro (.base .int)), .t 7 (.own (.base .int) true true 15), .t 15 (.ro (.list (.base .edit))), .t 16 (.ro (.base .int)), .t 17 (.ro (.base .int))], boxes := [(4, 9), (6, 9)], ptrs := [(4, 4, 0), (6, 6, 0)] })] Tryz.f41 iEditEngineAllFS.ps iEditEngineAllFS.rs iEditEngineAllFS.ex (a, b) = iEditEngineAll a b := by kernel_rfl
theorem iEditEngineAll_sound : Sound Tryz.prog iEditEngineAllFS :=
  sound_of_den (E := { tt := tt, fs := [iCopyEngineFS, iEditEngineFS] }) (.cons iCopyEngine_callable iCopyEngine_sound (.cons iEditEngine_callable iEditEngine_sound (.nil tt_ok))) mixed_ok [(4, { n := 35, its := [.b 4 0 (.own (.base .cell) true true 0), .b 4 1 (.ro (.base .int)), .b 4 2 (.ro (.base .int)), .b 4 3 (.own (.base .file) true true 1), .b 4 4 (.own (.base .tape) true true 3), .b 4 5 (.own (.base .entry) true true 5), .b 4 6 (.ro (.base .int)), .b 4 7 (.ro (.base .int)), .b 4 8 (.ro (.base .int)), .b 6 0 (.own (.base .cell) true true 7), .b 6 1 (.ro (.base .int)), .b 6 2 (.ro (.base .int)), .b 6 3 (.own (.base .file) true true 8), .b 6 4 (.own (.base .tape) true true 11), .b 6 5 (.own (.base .entry) true true 12), .b 6 6 (.ro (.base .int)), .b 6 7 (.ro (.base .int)), .b 6 8 (.ro (.base .int)), .t 7 (.own (.base .int) true true 15), .t 15 (.ro (.list (.base .edit))), .t 16 (.ro (.base .int)), .t 17 (.ro (.base .int))], boxes := [(4, 9), (6, 9)], ptrs := [(4, 4, 0), (6, 6, 0)] })] (fn := Tryz.f41) (by kernel_rfl) fun x => iEditEngineAll_den x.1 x.2
theorem iBatchEngine_callable : callable Tryz.prog 10 = true := by kernel_rfl
theorem iBatchEngine_den (a : GEngine) (b : List GEdit) : denF { tt := tt, fs := [iApplyBatchFS, iCopyEngineFS, iEditEngineAllFS] } [] Tryz.f10 iBatchEngineFS.ps iBatchEngineFS.rs iBatchEngineFS.ex (a, b) = iBatchEngine a b := by kernel_rfl
theorem iBatchEngine_sound : Sound Tryz.prog iBatchEngineFS :=
  sound_of_den (E := { tt := tt, fs := [iApplyBatchFS, iCopyEngineFS, iEditEngineAllFS] }) (.cons iApplyBatch_callable iApplyBatch_sound (.cons iCopyEngine_callable iCopyEngine_sound (.cons iEditEngineAll_callable iEditEngineAll_sound (.nil tt_ok)))) mixed_ok [] (fn := Tryz.f10) (by kernel_rfl) fun x => iBatchEngine_den x.1 x.2
theorem eqCell_callable : callable Tryz.prog 99 = true := by kernel_rfl
theorem eqCell_den (a : GCell) (b : GCell) : denF { tt := tt, fs := [] } [] Tryz.f99 eqCellFS.ps eqCellFS.rs eqCellFS.ex (a, b) = eqCell a b := by kernel_rfl
theorem eqCell_sound : Sound Tryz.prog eqCellFS :=
  sound_of_den (E := { tt := tt, fs := [] }) (.nil tt_ok) mixed_ok [] (fn := Tryz.f99) (by kernel_rfl) fun x => eqCell_den x.1 x.2
theorem eqCellS_callable : callable Tryz.prog 95 = true := by kernel_rfl
theorem eqCellS_den (a : List GCell) (b : List GCell) : denF { tt := tt, fs := [eqCellFS] } [(4, { n := 27, its := [.t 0 (.ro (.list (.base .cell))), .t 1 (.ro (.list (.base .cell))), .t 5 (.ro (.base .int))], boxes := [], ptrs := [] })] Tryz.f95 eqCellSFS.ps eqCellSFS.rs eqCellSFS.ex (a, b) = eqCellS a b := by kernel_rfl
theorem eqCellS_sound : Sound Tryz.prog eqCellSFS :=
  sound_of_den (E := { tt := tt, fs := [eqCellFS] }) (.cons eqCell_callable eqCell_sound (.nil tt_ok)) mixed_ok [(4, { n := 27, its := [.t 0 (.ro (.list (.base .cell))), .t 1 (.ro (.list (.base .cell))), .t 5 (.ro (.base .int))], boxes := [], ptrs := [] })] (fn := Tryz.f95) (by kernel_rfl) fun x => eqCellS_den x.1 x.2
theorem eqNotebook_callable : callable Tryz.prog 42 = true := by kernel_rfl
theorem eqNotebook_den (a : GNotebook) (b : GNotebook) : denF { tt := tt, fs := [eqCellSFS] } [] Tryz.f42 eqNotebookFS.ps eqNotebookFS.rs eqNotebookFS.ex (a, b) = eqNotebook a b := by kernel_rfl
theorem eqNotebook_sound : Sound Tryz.prog eqNotebookFS :=
  sound_of_den (E := { tt := tt, fs := [eqCellSFS] }) (.cons eqCellS_callable eqCellS_sound (.nil tt_ok)) mixed_ok [] (fn := Tryz.f42) (by kernel_rfl) fun x => eqNotebook_den x.1 x.2
theorem eqFile_callable : callable Tryz.prog 149 = true := by kernel_rfl
theorem eqFile_den (a : GFile) (b : GFile) : denF { tt := tt, fs := [] } [] Tryz.f149 eqFileFS.ps eqFileFS.rs eqFileFS.ex (a, b) = eqFile a b := by kernel_rfl
theorem eqFile_sound : Sound Tryz.prog eqFileFS :=
  sound_of_den (E := { tt := tt, fs := [] }) (.nil tt_ok) mixed_ok [] (fn := Tryz.f149) (by kernel_rfl) fun x => eqFile_den x.1 x.2
theorem eqFileS_callable : callable Tryz.prog 96 = true := by kernel_rfl
theorem eqFileS_den (a : List GFile) (b : List GFile) : denF { tt := tt, fs := [eqFileFS] } [(4, { n := 27, its := [.t 0 (.ro (.list (.base .file))), .t 1 (.ro (.list (.base .file))), .t 5 (.ro (.base .int))], boxes := [], ptrs := [] })] Tryz.f96 eqFileSFS.ps eqFileSFS.rs eqFileSFS.ex (a, b) = eqFileS a b := by kernel_rfl
theorem eqFileS_sound : Sound Tryz.prog eqFileSFS :=
  sound_of_den (E := { tt := tt, fs := [eqFileFS] }) (.cons eqFile_callable eqFile_sound (.nil tt_ok)) mixed_ok [(4, { n := 27, its := [.t 0 (.ro (.list (.base .file))), .t 1 (.ro (.list (.base .file))), .t 5 (.ro (.base .int))], boxes := [], ptrs := [] })] (fn := Tryz.f96) (by kernel_rfl) fun x => eqFileS_den x.1 x.2
theorem eqWorld_callable : callable Tryz.prog 43 = true := by kernel_rfl
theorem eqWorld_den (a : GWorld) (b : GWorld) : denF { tt := tt, fs := [eqFileSFS] } [] Tryz.f43 eqWorldFS.ps eqWorldFS.rs eqWorldFS.ex (a, b) = eqWorld a b := by kernel_rfl
theorem eqWorld_sound : Sound Tryz.prog eqWorldFS :=
  sound_of_den (E := { tt := tt, fs := [eqFileSFS] }) (.cons eqFileS_callable eqFileS_sound (.nil tt_ok)) mixed_ok [] (fn := Tryz.f43) (by kernel_rfl) fun x => eqWorld_den x.1 x.2
theorem eqStringS_callable : callable Tryz.prog 185 = true := by kernel_rfl
theorem eqStringS_den (a : List Str) (b : List Str) : denF { tt := tt, fs := [] } [(4, { n := 26, its := [.t 0 (.ro (.list (.base .str))), .t 1 (.ro (.list (.base .str))), .t 5 (.ro (.base .int))], boxes := [], ptrs := [] })] Tryz.f185 eqStringSFS.ps eqStringSFS.rs eqStringSFS.ex (a, b) = eqStringS a b := by kernel_rfl
theorem eqStringS_sound : Sound Tryz.prog eqStringSFS :=
  sound_of_den (E := { tt := tt, fs := [] }) (.nil tt_ok) mixed_ok [(4, { n := 26, its := [.t 0 (.ro (.list (.base .str))), .t 1 (.ro (.list (.base .str))), .t 5 (.ro (.base .int))], boxes := [], ptrs := [] })] (fn := Tryz.f185) (by kernel_rfl) fun x => eqStringS_den x.1 x.2
theorem eqIntS_callable : callable Tryz.prog 151 = true := by kernel_rfl
theorem eqIntS_den (a : List Int) (b : List Int) : denF { tt := tt, fs := [] } [(4, { n := 26, its := [.t 0 (.ro (.list (.base .int))), .t 1 (.ro (.list (.base .int))), .t 5 (.ro (.base .int))], boxes := [], ptrs := [] })] Tryz.f151 eqIntSFS.ps eqIntSFS.rs eqIntSFS.ex (a, b) = eqIntS a b := by kernel_rfl
theorem eqIntS_sound : Sound Tryz.prog eqIntSFS :=
  sound_of_den (E := { tt := tt, fs := [] }) (.nil tt_ok) mixed_ok [(4, { n := 26, its := [.t 0 (.ro (.list (.base .int))), .t 1 (.ro (.list (.base .int))), .t 5 (.ro (.base .int))], boxes := [], ptrs := [] })] (fn := Tryz.f151) (by kernel_rfl) fun x => eqIntS_den x.1 x.2
theorem eqOrigin_callable : callable Tryz.prog 228 = true := by kernel_rfl
theorem eqOrigin_den (a : GOrigin) (b : GOrigin) : denF { tt := tt, fs := [] } [] Tryz.f228 eqOriginFS.ps eqOriginFS.rs eqOriginFS.ex (a, b) = eqOrigin a b := by kernel_rfl
theorem eqOrigin_sound : Sound Tryz.prog eqOriginFS :=
  sound_of_den (E := { tt := tt, fs := [] }) (.nil tt_ok) mixed_ok [] (fn := Tryz.f228) (by kernel_rfl) fun x => eqOrigin_den x.1 x.2
theorem eqOriginS_callable : callable Tryz.prog 212 = true := by kernel_rfl
theorem eqOriginS_den (a : List GOrigin) (b : List GOrigin) : denF { tt := tt, fs := [eqOriginFS] } [(4, { n := 27, its := [.t 0 (.ro (.list (.base .origin))), .t 1 (.ro (.list (.base .origin))), .t 5 (.ro (.base .int))], boxes := [], ptrs := [] })] Tryz.f212 eqOriginSFS.ps eqOriginSFS.rs eqOriginSFS.ex (a, b) = eqOriginS a b := by kernel_rfl
theorem eqOriginS_sound : Sound Tryz.prog eqOriginSFS :=
  sound_of_den (E := { tt := tt, fs := [eqOriginFS] }) (.cons eqOrigin_callable eqOrigin_sound (.nil tt_ok)) mixed_ok [(4, { n := 27, its := [.t 0 (.ro (.list (.base .origin))), .t 1 (.ro (.list (.base .origin))), .t 5 (.ro (.base .int))], boxes := [], ptrs := [] })] (fn := Tryz.f212) (by kernel_rfl) fun x => eqOriginS_den x.1 x.2
theorem eqRow_callable : callable Tryz.prog 201 = true := by kernel_rfl
theorem eqRow_den (a : GRow) (b : GRow) : denF { tt := tt, fs := [eqIntSFS, eqOriginSFS] } [] Tryz.f201 eqRowFS.ps eqRowFS.rs eqRowFS.ex (a, b) = eqRow a b := by kernel_rfl
theorem eqRow_sound : Sound Tryz.prog eqRowFS :=
  sound_of_den (E := { tt := tt, fs := [eqIntSFS, eqOriginSFS] }) (.cons eqIntS_callable eqIntS_sound (.cons eqOriginS_callable eqOriginS_sound (.nil tt_ok))) mixed_ok [] (fn := Tryz.f201) (by kernel_rfl) fun x => eqRow_den x.1 x.2
theorem eqRowS_callable : callable Tryz.prog 186 = true := by kernel_rfl
theorem eqRowS_den (a : List GRow) (b : List GRow) : denF { tt := tt, fs := [eqRowFS] } [(4, { n := 27, its := [.t 0 (.ro (.list (.base .row))), .t 1 (.ro (.list (.base .row))), .t 5 (.ro (.base .int))], boxes := [], ptrs := [] })] Tryz.f186 eqRowSFS.ps eqRowSFS.rs eqRowSFS.ex (a, b) = eqRowS a b := by kernel_rfl
theorem eqRowS_sound : Sound Tryz.prog eqRowSFS :=
  sound_of_den (E := { tt := tt, fs := [eqRowFS] }) (.cons eqRow_callable eqRow_sound (.nil tt_ok)) mixed_ok [(4, { n := 27, its := [.t 0 (.ro (.list (.base .row))), .t 1 (.ro (.list (.base .row))), .t 5 (.ro (.base .int))], boxes := [], ptrs := [] })] (fn := Tryz.f186) (by kernel_rfl) fun x => eqRowS_den x.1 x.2
theorem eqValue_callable : callable Tryz.prog 152 = true := by kernel_rfl
theorem eqValueS_callable : callable Tryz.prog 184 = true := by kernel_rfl
theorem eqValue_den (reqValue : GVal → GVal → Option (Bool)) (reqValueS : (List GVal) → (List GVal) → Option (Bool)) (a : GVal) (b : GVal) : denF { tt := tt, fs := [eqStringSFS, eqRowSFS, { fid := 152, ps := [⟨true, .base .val⟩, ⟨true, .base .val⟩], rs := [⟨false, .base .bool⟩], ex := true, fn := fun x => reqValue x.1 x.2 }, { fid := 184, ps := [⟨false, .list (.base .val)⟩, ⟨false, .list (.base .val)⟩], rs := [⟨false, .base .bool⟩], ex := true, fn := fun x => reqValueS x.1 x.2 }] } [] Tryz.f152 eqValueFS.ps eqValueFS.rs eqValueFS.ex (a, b) = eqValueB reqValue reqValueS a b := by kernel_rfl
theorem eqValueS_den (reqValue : GVal → GVal → Option (Bool)) (reqValueS : (List GVal) → (List GVal) → Option (Bool)) (a : List GVal) (b : List GVal) : denF { tt := tt, fs := [eqStringSFS, eqRowSFS, { fid := 152, ps := [⟨true, .base .val⟩, ⟨true, .base .val⟩], rs := [⟨false, .base .bool⟩], ex := true, fn := fun x => reqValue x.1 x.2 }, { fid := 184, ps := [⟨false, .list (.base .val)⟩, ⟨false, .list (.base .val)⟩], rs := [⟨false, .base .bool⟩], ex := true, fn := fun x => reqValueS x.1 x.2 }] } [(4, { n := 27, its := [.t 0 (.ro (.list (.base .val))), .t 1 (.ro (.list (.base .val))), .t 5 (.ro (.base .int))], boxes := [], ptrs := [] })] Tryz.f184 eqValueSFS.ps eqValueSFS.rs eqValueSFS.ex (a, b) = eqValueSB reqValue reqValueS a b := by kernel_rfl
theorem eqValueG_sound : ∀ n, Sound Tryz.prog (eqValueFSN n) ∧ Sound Tryz.prog (eqValueSFSN n)
  | 0 => ⟨(fun w S args x y h => by cases h), (fun w S args x y h => by cases h)⟩
  | n + 1 => by
    have ih := eqValueG_sound n
    exact ⟨sound_of_den (s := eqValueFSN (n + 1)) (E := { tt := tt, fs := [eqStringSFS, eqRowSFS, eqValueFSN n, eqValueSFSN n] }) (.cons eqStringS_callable eqStringS_sound (.cons eqRowS_callable eqRowS_sound (.cons eqValue_callable ih.1 (.cons eqValueS_callable ih.2 (.nil tt_ok))))) mixed_ok [] (fn := Tryz.f152) (by kernel_rfl) fun x => eqValue_den _ _ x.1 x.2, sound_of_den (s := eqValueSFSN (n + 1)) (E := { tt := tt, fs := [eqStringSFS, eqRowSFS, eqValueFSN n, eqValueSFSN n] }) (.cons eqStringS_callable eqStringS_sound (.cons eqRowS_callable eqRowS_sound (.cons eqValue_callable ih.1 (.cons eqValueS_callable ih.2 (.nil tt_ok))))) mixed_ok [(4, { n := 27, its := [.t 0 (.ro (.list (.base .val))), .t 1 (.ro (.list (.base .val))), .t 5 (.ro (.base .int))], boxes := [], ptrs := [] })] (fn := Tryz.f184) (by kernel_rfl) fun x => eqValueS_den _ _ x.1 x.2⟩
theorem eqValue_sound : Sound Tryz.prog eqValueFS := fun w S args x y h => (eqValueG_sound (siz (α := GVal) x.1 + siz (α := GVal) x.2 + 1)).1 w S args x y h
theorem eqValueS_sound : Sound Tryz.prog eqValueSFS := fun w S args x y h => (eqValueG_sound (siz (α := List GVal) x.1 + siz (α := List GVal) x.2 + 1)).2 w S args x y h
theorem eqRead_callable : callable Tryz.prog 183 = true := by kernel_rfl
theorem eqRead_den (a : GRead) (b : GRead) : denF { tt := tt, fs := [eqValueFS] } [] Tryz.f183 eqReadFS.ps eqReadFS.rs eqReadFS.ex (a, b) = eqRead a b := by kernel_rfl
theorem eqRead_sound : Sound Tryz.prog eqReadFS :=
  sound_of_den (E := { tt := tt, fs := [eqValueFS] }) (.cons eqValue_callable eqValue_sound (.nil tt_ok)) mixed_ok [] (fn := Tryz.f183) (by kernel_rfl) fun x => eqRead_den x.1 x.2
theorem eqReadS_callable : callable Tryz.prog 150 = true := by kernel_rfl
theorem eqReadS_den (a : List GRead) (b : List GRead) : denF { tt := tt, fs := [eqReadFS] } [(4, { n := 27, its := [.t 0 (.ro (.list (.base .read))), .t 1 (.ro (.list (.base .read))), .t 5 (.ro (.base .int))], boxes := [], ptrs := [] })] Tryz.f150 eqReadSFS.ps eqReadSFS.rs eqReadSFS.ex (a, b) = eqReadS a b := by kernel_rfl
theorem eqReadS_sound : Sound Tryz.prog eqReadSFS :=
  sound_of_den (E := { tt := tt, fs := [eqReadFS] }) (.cons eqRead_callable eqRead_sound (.nil tt_ok)) mixed_ok [(4, { n := 27, its := [.t 0 (.ro (.list (.base .read))), .t 1 (.ro (.list (.base .read))), .t 5 (.ro (.base .int))], boxes := [], ptrs := [] })] (fn := Tryz.f150) (by kernel_rfl) fun x => eqReadS_den x.1 x.2
theorem eqTape_callable : callable Tryz.prog 97 = true := by kernel_rfl
theorem eqTape_den (a : GTape) (b : GTape) : denF { tt := tt, fs := [eqReadSFS] } [] Tryz.f97 eqTapeFS.ps eqTapeFS.rs eqTapeFS.ex (a, b) = eqTape a b := by kernel_rfl
theorem eqTape_sound : Sound Tryz.prog eqTapeFS :=
  sound_of_den (E := { tt := tt, fs := [eqReadSFS] }) (.cons eqReadS_callable eqReadS_sound (.nil tt_ok)) mixed_ok [] (fn := Tryz.f97) (by kernel_rfl) fun x => eqTape_den x.1 x.2
theorem eqTapeS_callable : callable Tryz.prog 44 = true := by kernel_rfl
theorem eqTapeS_den (a : List GTape) (b : List GTape) : denF { tt := tt, fs := [eqTapeFS] } [(4, { n := 27, its := [.t 0 (.ro (.list (.base .tape))), .t 1 (.ro (.list (.base .tape))), .t 5 (.ro (.base .int))], boxes := [], ptrs := [] })] Tryz.f44 eqTapeSFS.ps eqTapeSFS.rs eqTapeSFS.ex (a, b) = eqTapeS a b := by kernel_rfl
theorem eqTapeS_sound : Sound Tryz.prog eqTapeSFS :=
  sound_of_den (E := { tt := tt, fs := [eqTapeFS] }) (.cons eqTape_callable eqTape_sound (.nil tt_ok)) mixed_ok [(4, { n := 27, its := [.t 0 (.ro (.list (.base .tape))), .t 1 (.ro (.list (.base .tape))), .t 5 (.ro (.base .int))], boxes := [], ptrs := [] })] (fn := Tryz.f44) (by kernel_rfl) fun x => eqTapeS_den x.1 x.2
theorem eqEntry_callable : callable Tryz.prog 98 = true := by kernel_rfl
theorem eqEntry_den (a : GEntry) (b : GEntry) : denF { tt := tt, fs := [eqIntSFS, eqValueFS] } [] Tryz.f98 eqEntryFS.ps eqEntryFS.rs eqEntryFS.ex (a, b) = eqEntry a b := by kernel_rfl
theorem eqEntry_sound : Sound Tryz.prog eqEntryFS :=
  sound_of_den (E := { tt := tt, fs := [eqIntSFS, eqValueFS] }) (.cons eqIntS_callable eqIntS_sound (.cons eqValue_callable eqValue_sound (.nil tt_ok))) mixed_ok [] (fn := Tryz.f98) (by kernel_rfl) fun x => eqEntry_den x.1 x.2
theorem eqEntryS_callable : callable Tryz.prog 45 = true := by kernel_rfl
theorem eqEntryS_den (a : List GEntry) (b : List GEntry) : denF { tt := tt, fs := [eqEntryFS] } [(4, { n := 27, its := [.t 0 (.ro (.list (.base .entry))), .t 1 (.ro (.list (.base .entry))), .t 5 (.ro (.base .int))], boxes := [], ptrs := [] })] Tryz.f45 eqEntrySFS.ps eqEntrySFS.rs eqEntrySFS.ex (a, b) = eqEntryS a b := by kernel_rfl
theorem eqEntryS_sound : Sound Tryz.prog eqEntrySFS :=
  sound_of_den (E := { tt := tt, fs := [eqEntryFS] }) (.cons eqEntry_callable eqEntry_sound (.nil tt_ok)) mixed_ok [(4, { n := 27, its := [.t 0 (.ro (.list (.base .entry))), .t 1 (.ro (.list (.base .entry))), .t 5 (.ro (.base .int))], boxes := [], ptrs := [] })] (fn := Tryz.f45) (by kernel_rfl) fun x => eqEntryS_den x.1 x.2
theorem eqEngine_callable : callable Tryz.prog 11 = true := by kernel_rfl
theorem eqEngine_den (a : GEngine) (b : GEngine) : denF { tt := tt, fs := [eqNotebookFS, eqWorldFS, eqTapeSFS, eqEntrySFS] } [] Tryz.f11 eqEngineFS.ps eqEngineFS.rs eqEngineFS.ex (a, b) = eqEngine a b := by kernel_rfl
theorem eqEngine_sound : Sound Tryz.prog eqEngineFS :=
  sound_of_den (E := { tt := tt, fs := [eqNotebookFS, eqWorldFS, eqTapeSFS, eqEntrySFS] }) (.cons eqNotebook_callable eqNotebook_sound (.cons eqWorld_callable eqWorld_sound (.cons eqTapeS_callable eqTapeS_sound (.cons eqEntryS_callable eqEntryS_sound (.nil tt_ok))))) mixed_ok [] (fn := Tryz.f11) (by kernel_rfl) fun x => eqEngine_den x.1 x.2
end Go.Proofs.YtopcobafmnpmkaaGreat
