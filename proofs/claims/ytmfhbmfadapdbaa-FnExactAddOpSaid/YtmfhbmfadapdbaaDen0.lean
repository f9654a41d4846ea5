/- The functions compute their models, by gen.py. -/
import Derived.Test.YtmfhbmfadapdbaaEnvs
namespace Go.Proofs.Ytmfhbmfadapdbaa
open Go.Abs Go.Proofs
set_option maxRecDepth 100000
theorem szCell_callable : callable Try.prog 138 = true := by kernel_rfl
theorem szCell_den (a : GCell) (b : Int) : denF { tt := tt, fs := [] } [] Try.f138 szCellFS.ps szCellFS.rs szCellFS.ex (a, b) = szCell a b := by kernel_rfl
theorem szCell_sound : Sound Try.prog szCellFS :=
  sound_of_den (E := { tt := tt, fs := [] }) (.nil tt_ok) mixed_ok [] (fn := Try.f138) (by kernel_rfl) fun x => szCell_den x.1 x.2
theorem szCellS_callable : callable Try.prog 66 = true := by kernel_rfl
theorem szCellS_den (a : List GCell) (b : Int) : denF { tt := tt, fs := [szCellFS] } [(5, { n := 27, its := [.t 0 (.ro (.list (.base .cell))), .t 1 (.ro (.base .int)), .t 5 (.ro (.base .int))], boxes := [], ptrs := [] })] Try.f66 szCellSFS.ps szCellSFS.rs szCellSFS.ex (a, b) = szCellS a b := by kernel_rfl
theorem szCellS_sound : Sound Try.prog szCellSFS :=
  sound_of_den (E := { tt := tt, fs := [szCellFS] }) (.cons szCell_callable szCell_sound (.nil tt_ok)) mixed_ok [(5, { n := 27, its := [.t 0 (.ro (.list (.base .cell))), .t 1 (.ro (.base .int)), .t 5 (.ro (.base .int))], boxes := [], ptrs := [] })] (fn := Try.f66) (by kernel_rfl) fun x => szCellS_den x.1 x.2
theorem szNotebook_callable : callable Try.prog 12 = true := by kernel_rfl
theorem szNotebook_den (a : GNotebook) (b : Int) : denF { tt := tt, fs := [szCellSFS] } [] Try.f12 szNotebookFS.ps szNotebookFS.rs szNotebookFS.ex (a, b) = szNotebook a b := by kernel_rfl
theorem szNotebook_sound : Sound Try.prog szNotebookFS :=
  sound_of_den (E := { tt := tt, fs := [szCellSFS] }) (.cons szCellS_callable szCellS_sound (.nil tt_ok)) mixed_ok [] (fn := Try.f12) (by kernel_rfl) fun x => szNotebook_den x.1 x.2
theorem szEdit_callable : callable Try.prog 67 = true := by kernel_rfl
theorem szEdit_den (a : GEdit) (b : Int) : denF { tt := tt, fs := [szCellFS] } [] Try.f67 szEditFS.ps szEditFS.rs szEditFS.ex (a, b) = szEdit a b := by kernel_rfl
theorem szEdit_sound : Sound Try.prog szEditFS :=
  sound_of_den (E := { tt := tt, fs := [szCellFS] }) (.cons szCell_callable szCell_sound (.nil tt_ok)) mixed_ok [] (fn := Try.f67) (by kernel_rfl) fun x => szEdit_den x.1 x.2
theorem szEditS_callable : callable Try.prog 13 = true := by kernel_rfl
theorem szEditS_den (a : List GEdit) (b : Int) : denF { tt := tt, fs := [szEditFS] } [(5, { n := 27, its := [.t 0 (.ro (.list (.base .edit))), .t 1 (.ro (.base .int)), .t 5 (.ro (.base .int))], boxes := [], ptrs := [] })] Try.f13 szEditSFS.ps szEditSFS.rs szEditSFS.ex (a, b) = szEditS a b := by kernel_rfl
theorem szEditS_sound : Sound Try.prog szEditSFS :=
  sound_of_den (E := { tt := tt, fs := [szEditFS] }) (.cons szEdit_callable szEdit_sound (.nil tt_ok)) mixed_ok [(5, { n := 27, its := [.t 0 (.ro (.list (.base .edit))), .t 1 (.ro (.base .int)), .t 5 (.ro (.base .int))], boxes := [], ptrs := [] })] (fn := Try.f13) (by kernel_rfl) fun x => szEditS_den x.1 x.2
theorem sL17Copy_callable : callable Try.prog 68 = true := by kernel_rfl
theorem sL17Copy_den (a : GNotebook) : denF { tt := tt, fs := [] } [] Try.f68 sL17CopyFS.ps sL17CopyFS.rs sL17CopyFS.ex a = sL17Copy a := by kernel_rfl
theorem sL17Copy_sound : Sound Try.prog sL17CopyFS :=
  sound_of_den (E := { tt := tt, fs := [] }) (.nil tt_ok) mixed_ok [] (fn := Try.f68) (by kernel_rfl) fun x => sL17Copy_den x
theorem sL1In_callable : callable Try.prog 81 = true := by kernel_rfl
theorem sL1In_den (a : Int) (b : Int) (c : Int) : denF { tt := tt, fs := [] } [] Try.f81 sL1InFS.ps sL1InFS.rs sL1InFS.ex (a, b, c) = sL1In a b c := by kernel_rfl
theorem sL1In_sound : Sound Try.prog sL1InFS :=
  sound_of_den (E := { tt := tt, fs := [] }) (.nil tt_ok) mixed_ok [] (fn := Try.f81) (by kernel_rfl) fun x => sL1In_den x.1 x.2.1 x.2.2
theorem sCellIndex_callable : callable Try.prog 139 = true := by kernel_rfl
theorem sCellIndex_den (a : GNotebook) (b : Int) : denF { tt := tt, fs := [] } [(2, { n := 22, its := [.t 1 (.ro (.base .int)), .b 2 0 (.ro (.list (.base .cell))), .t 5 (.ro (.base .int))], boxes := [(2, 1)], ptrs := [(2, 2, 0)] })] Try.f139 sCellIndexFS.ps sCellIndexFS.rs sCellIndexFS.ex (a, b) = sCellIndex a b := by kernel_rfl
theorem sCellIndex_sound : Sound Try.prog sCellIndexFS :=
  sound_of_den (E := { tt := tt, fs := [] }) (.nil tt_ok) mixed_ok [(2, { n := 22, its := [.t 1 (.ro (.base .int)), .b 2 0 (.ro (.list (.base .cell))), .t 5 (.ro (.base .int))], boxes := [(2, 1)], ptrs := [(2, 2, 0)] })] (fn := Try.f139) (by kernel_rfl) fun x => sCellIndex_den x.1 x.2
theorem sIsPrintable_callable : callable Try.prog 182 = true := by kernel_rfl
theorem sIsPrintable_den (a : Str) : denF { tt := tt, fs := [] } [(2, { n := 23, its := [.t 0 (.ro (.base .str)), .t 3 (.ro (.base .int))], boxes := [], ptrs := [] })] Try.f182 sIsPrintableFS.ps sIsPrintableFS.rs sIsPrintableFS.ex a = sIsPrintable a := by kernel_rfl
theorem sIsPrintable_sound : Sound Try.prog sIsPrintableFS :=
  sound_of_den (E := { tt := tt, fs := [] }) (.nil tt_ok) mixed_ok [(2, { n := 23, its := [.t 0 (.ro (.base .str)), .t 3 (.ro (.base .int))], boxes := [], ptrs := [] })] (fn := Try.f182) (by kernel_rfl) fun x => sIsPrintable_den x
theorem sL2Shape_callable : callable Try.prog 210 = true := by kernel_rfl
theorem sL2Shape_den (a : Str) : denF { tt := tt, fs := [] } [(2, { n := 45, its := [.t 0 (.ro (.base .str)), .t 3 (.ro (.base .int))], boxes := [], ptrs := [] })] Try.f210 sL2ShapeFS.ps sL2ShapeFS.rs sL2ShapeFS.ex a = sL2Shape a := by kernel_rfl
theorem sL2Shape_sound : Sound Try.prog sL2ShapeFS :=
  sound_of_den (E := { tt := tt, fs := [] }) (.nil tt_ok) mixed_ok [(2, { n := 45, its := [.t 0 (.ro (.base .str)), .t 3 (.ro (.base .int))], boxes := [], ptrs := [] })] (fn := Try.f210) (by kernel_rfl) fun x => sL2Shape_den x
theorem sL1Has_callable : callable Try.prog 230 = true := by kernel_rfl
theorem sL1Has_den (a : List Str) (b : Str) : denF { tt := tt, fs := [] } [(2, { n := 18, its := [.t 0 (.ro (.list (.base .str))), .t 1 (.ro (.base .str)), .t 5 (.ro (.base .int))], boxes := [], ptrs := [] })] Try.f230 sL1HasFS.ps sL1HasFS.rs sL1HasFS.ex (a, b) = sL1Has a b := by kernel_rfl
theorem sL1Has_sound : Sound Try.prog sL1HasFS :=
  sound_of_den (E := { tt := tt, fs := [] }) (.nil tt_ok) mixed_ok [(2, { n := 18, its := [.t 0 (.ro (.list (.base .str))), .t 1 (.ro (.base .str)), .t 5 (.ro (.base .int))], boxes := [], ptrs := [] })] (fn := Try.f230) (by kernel_rfl) fun x => sL1Has_den x.1 x.2
theorem sL2Reserved_callable : callable Try.prog 231 = true := by kernel_rfl
theorem sL2Reserved_den : denF { tt := tt, fs := [] } [] Try.f231 sL2ReservedFS.ps sL2ReservedFS.rs sL2ReservedFS.ex () = sL2Reserved := by kernel_rfl
theorem sL2Reserved_sound : Sound Try.prog sL2ReservedFS :=
  sound_of_den (E := { tt := tt, fs := [] }) (.nil tt_ok) mixed_ok [] (fn := Try.f231) (by kernel_rfl) fun x => sL2Reserved_den 
theorem sIsReserved_callable : callable Try.prog 211 = true := by kernel_rfl
theorem sIsReserved_den (a : Str) : denF { tt := tt, fs := [sL1HasFS, sL2ReservedFS] } [] Try.f211 sIsReservedFS.ps sIsReservedFS.rs sIsReservedFS.ex a = sIsReserved a := by kernel_rfl
theorem sIsReserved_sound : Sound Try.prog sIsReservedFS :=
  sound_of_den (E := { tt := tt, fs := [sL1HasFS, sL2ReservedFS] }) (.cons sL1Has_callable sL1Has_sound (.cons sL2Reserved_callable sL2Reserved_sound (.nil tt_ok))) mixed_ok [] (fn := Try.f211) (by kernel_rfl) fun x => sIsReserved_den x
theorem sIsValidName_callable : callable Try.prog 183 = true := by kernel_rfl
theorem sIsValidName_den (a : Str) : denF { tt := tt, fs := [sL2ShapeFS, sIsReservedFS] } [] Try.f183 sIsValidNameFS.ps sIsValidNameFS.rs sIsValidNameFS.ex a = sIsValidName a := by kernel_rfl
theorem sIsValidName_sound : Sound Try.prog sIsValidNameFS :=
  sound_of_den (E := { tt := tt, fs := [sL2ShapeFS, sIsReservedFS] }) (.cons sL2Shape_callable sL2Shape_sound (.cons sIsReserved_callable sIsReserved_sound (.nil tt_ok))) mixed_ok [] (fn := Try.f183) (by kernel_rfl) fun x => sIsValidName_den x
theorem sIsValidCell_callable : callable Try.prog 141 = true := by kernel_rfl
theorem sIsValidCell_den (a : GCell) : denF { tt := tt, fs := [sL1InFS, sIsPrintableFS, sIsValidNameFS] } [] Try.f141 sIsValidCellFS.ps sIsValidCellFS.rs sIsValidCellFS.ex a = sIsValidCell a := by kernel_rfl
theorem sIsValidCell_sound : Sound Try.prog sIsValidCellFS :=
  sound_of_den (E := { tt := tt, fs := [sL1InFS, sIsPrintableFS, sIsValidNameFS] }) (.cons sL1In_callable sL1In_sound (.cons sIsPrintable_callable sIsPrintable_sound (.cons sIsValidName_callable sIsValidName_sound (.nil tt_ok)))) mixed_ok [] (fn := Try.f141) (by kernel_rfl) fun x => sIsValidCell_den x
theorem sIsValidNotebook_callable : callable Try.prog 140 = true := by kernel_rfl
theorem sIsValidNotebook_den (a : GNotebook) : denF { tt := tt, fs := [sCellIndexFS, sIsValidCellFS] } [(2, { n := 34, its := [.b 1 0 (.ro (.list (.base .cell))), .t 3 (.ro (.base .int))], boxes := [(1, 1)], ptrs := [(1, 1, 0)] })] Try.f140 sIsValidNotebookFS.ps sIsValidNotebookFS.rs sIsValidNotebookFS.ex a = sIsValidNotebook a := by kernel_rfl
theorem sIsValidNotebook_sound : Sound Try.prog sIsValidNotebookFS :=
  sound_of_den (E := { tt := tt, fs := [sCellIndexFS, sIsValidCellFS] }) (.cons sCellIndex_callable sCellIndex_sound (.cons sIsValidCell_callable sIsValidCell_sound (.nil tt_ok))) mixed_ok [(2, { n := 34, its := [.b 1 0 (.ro (.list (.base .cell))), .t 3 (.ro (.base .int))], boxes := [(1, 1)], ptrs := [(1, 1, 0)] })] (fn := Try.f140) (by kernel_rfl) fun x => sIsValidNotebook_den x
theorem sL1Max_callable : callable Try.prog 171 = true := by kernel_rfl
theorem sL1Max_den (a : Int) (b : Int) : denF { tt := tt, fs := [] } [] Try.f171 sL1MaxFS.ps sL1MaxFS.rs sL1MaxFS.ex (a, b) = sL1Max a b := by kernel_rfl
theorem sL1Max_sound : Sound Try.prog sL1MaxFS :=
  sound_of_den (E := { tt := tt, fs := [] }) (.nil tt_ok) mixed_ok [] (fn := Try.f171) (by kernel_rfl) fun x => sL1Max_den x.1 x.2
theorem sL1Min_callable : callable Try.prog 184 = true := by kernel_rfl
theorem sL1Min_den (a : Int) (b : Int) : denF { tt := tt, fs := [] } [] Try.f184 sL1MinFS.ps sL1MinFS.rs sL1MinFS.ex (a, b) = sL1Min a b := by kernel_rfl
theorem sL1Min_sound : Sound Try.prog sL1MinFS :=
  sound_of_den (E := { tt := tt, fs := [] }) (.nil tt_ok) mixed_ok [] (fn := Try.f184) (by kernel_rfl) fun x => sL1Min_den x.1 x.2
theorem sL20Put_callable : callable Try.prog 142 = true := by kernel_rfl
theorem sL20Put_den (a : List GCell) (b : Int) (c : GCell) : denF { tt := tt, fs := [sL1MaxFS, sL1MinFS] } [] Try.f142 sL20PutFS.ps sL20PutFS.rs sL20PutFS.ex (a, b, c) = sL20Put a b c := by kernel_rfl
theorem sL20Put_sound : Sound Try.prog sL20PutFS :=
  sound_of_den (E := { tt := tt, fs := [sL1MaxFS, sL1MinFS] }) (.cons sL1Max_callable sL1Max_sound (.cons sL1Min_callable sL1Min_sound (.nil tt_ok))) mixed_ok [] (fn := Try.f142) (by kernel_rfl) fun x => sL20Put_den x.1 x.2.1 x.2.2
theorem sL20Drop_callable : callable Try.prog 143 = true := by kernel_rfl
theorem sL20Drop_den (a : List GCell) (b : Int) : denF { tt := tt, fs := [] } [] Try.f143 sL20DropFS.ps sL20DropFS.rs sL20DropFS.ex (a, b) = sL20Drop a b := by kernel_rfl
theorem sL20Drop_sound : Sound Try.prog sL20DropFS :=
  sound_of_den (E := { tt := tt, fs := [] }) (.nil tt_ok) mixed_ok [] (fn := Try.f143) (by kernel_rfl) fun x => sL20Drop_den x.1 x.2
theorem sL20Cell_callable : callable Try.prog 144 = true := by kernel_rfl
theorem sL20Cell_den (a : GCell) (b : GEdit) : denF { tt := tt, fs := [sIsValidCellFS] } [] Try.f144 sL20CellFS.ps sL20CellFS.rs sL20CellFS.ex (a, b) = sL20Cell a b := by kernel_rfl
theorem sL20Cell_sound : Sound Try.prog sL20CellFS :=
  sound_of_den (E := { tt := tt, fs := [sIsValidCellFS] }) (.cons sIsValidCell_callable sIsValidCell_sound (.nil tt_ok)) mixed_ok [] (fn := Try.f144) (by kernel_rfl) fun x => sL20Cell_den x.1 x.2
theorem sApplyEdit_callable : callable Try.prog 70 = true := by kernel_rfl
theorem sApplyEdit_den (a : GNotebook) (b : GEdit) : denF { tt := tt, fs := [sL17CopyFS, sL1InFS, sCellIndexFS, sIsValidNotebookFS, sIsValidCellFS, sL20PutFS, sL20DropFS, sL20CellFS] } [] Try.f70 sApplyEditFS.ps sApplyEditFS.rs sApplyEditFS.ex (a, b) = sApplyEdit a b := by kernel_rfl
theorem sApplyEdit_sound : Sound Try.prog sApplyEditFS :=
  sound_of_den (E := { tt := tt, fs := [sL17CopyFS, sL1InFS, sCellIndexFS, sIsValidNotebookFS, sIsValidCellFS, sL20PutFS, sL20DropFS, sL20CellFS] }) (.cons sL17Copy_callable sL17Copy_sound (.cons sL1In_callable sL1In_sound (.cons sCellIndex_callable sCellIndex_sound (.cons sIsValidNotebook_callable sIsValidNotebook_sound (.cons sIsValidCell_callable sIsValidCell_sound (.cons sL20Put_callable sL20Put_sound (.cons sL20Drop_callable sL20Drop_sound (.cons sL20Cell_callable sL20Cell_sound (.nil tt_ok))))))))) mixed_ok [] (fn := Try.f70) (by kernel_rfl) fun x => sApplyEdit_den x.1 x.2
theorem sInverseEdit_callable : callable Try.prog 69 = true := by kernel_rfl
theorem sInverseEdit_den (a : GNotebook) (b : GEdit) : denF { tt := tt, fs := [sApplyEditFS, sCellIndexFS] } [] Try.f69 sInverseEditFS.ps sInverseEditFS.rs sInverseEditFS.ex (a, b) = sInverseEdit a b := by kernel_rfl
theorem sInverseEdit_sound : Sound Try.prog sInverseEditFS :=
  sound_of_den (E := { tt := tt, fs := [sApplyEditFS, sCellIndexFS] }) (.cons sApplyEdit_callable sApplyEdit_sound (.cons sCellIndex_callable sCellIndex_sound (.nil tt_ok))) mixed_ok [] (fn := Try.f69) (by kernel_rfl) fun x => sInverseEdit_den x.1 x.2
theorem sInverseBatch_callable : callable Try.prog 14 = true := by kernel_rfl
theorem sInverseBatch_den (a : GNotebook) (b : List GEdit) : denF { tt := tt, fs := [sL17CopyFS, sInverseEditFS, sApplyEditFS] } [(4, { n := 46, its := [.t 1 (.ro (.list (.base .edit))), .t 6 (.own (.base .edit) true true 0), .b 7 0 (.own (.base .cell) true true 1), .t 8 (.ro (.base .int))], boxes := [(7, 1)], ptrs := [(7, 7, 0)] })] Try.f14 sInverseBatchFS.ps sInverseBatchFS.rs sInverseBatchFS.ex (a, b) = sInverseBatch a b := by kernel_rfl
theorem sInverseBatch_sound : Sound Try.prog sInverseBatchFS :=
  sound_of_den (E := { tt := tt, fs := [sL17CopyFS, sInverseEditFS, sApplyEditFS] }) (.cons sL17Copy_callable sL17Copy_sound (.cons sInverseEdit_callable sInverseEdit_sound (.cons sApplyEdit_callable sApplyEdit_sound (.nil tt_ok)))) mixed_ok [(4, { n := 46, its := [.t 1 (.ro (.list (.base .edit))), .t 6 (.own (.base .edit) true true 0), .b 7 0 (.own (.base .cell) true true 1), .t 8 (.ro (.base .int))], boxes := [(7, 1)], ptrs := [(7, 7, 0)] })] (fn := Try.f14) (by kernel_rfl) fun x => sInverseBatch_den x.1 x.2
theorem toCell_callable : callable Try.prog 145 = true := by kernel_rfl
theorem toCell_den (a : GCell) : denF { tt := tt, fs := [] } [] Try.f145 toCellFS.ps toCellFS.rs toCellFS.ex a = toCell a := by kernel_rfl
theorem toCell_sound : Sound Try.prog toCellFS :=
  sound_of_den (E := { tt := tt, fs := [] }) (.nil tt_ok) mixed_ok [] (fn := Try.f145) (by kernel_rfl) fun x => toCell_den x
theorem toCellS_callable : callable Try.prog 71 = true := by kernel_rfl
theorem toCellS_den (a : List GCell) : denF { tt := tt, fs := [toCellFS] } [(3, { n := 23, its := [.t 0 (.ro (.list (.base .cell))), .t 3 (.own (.base .cell) true true 0), .t 4 (.ro (.base .int))], boxes := [], ptrs := [] })] Try.f71 toCellSFS.ps toCellSFS.rs toCellSFS.ex a = toCellS a := by kernel_rfl
theorem toCellS_sound : Sound Try.prog toCellSFS :=
  sound_of_den (E := { tt := tt, fs := [toCellFS] }) (.cons toCell_callable toCell_sound (.nil tt_ok)) mixed_ok [(3, { n := 23, its := [.t 0 (.ro (.list (.base .cell))), .t 3 (.own (.base .cell) true true 0), .t 4 (.ro (.base .int))], boxes := [], ptrs := [] })] (fn := Try.f71) (by kernel_rfl) fun x => toCellS_den x
theorem toNotebook_callable : callable Try.prog 15 = true := by kernel_rfl
theorem toNotebook_den (a : GNotebook) : denF { tt := tt, fs := [toCellSFS] } [] Try.f15 toNotebookFS.ps toNotebookFS.rs toNotebookFS.ex a = toNotebook a := by kernel_rfl
theorem toNotebook_sound : Sound Try.prog toNotebookFS :=
  sound_of_den (E := { tt := tt, fs := [toCellSFS] }) (.cons toCellS_callable toCellS_sound (.nil tt_ok)) mixed_ok [] (fn := Try.f15) (by kernel_rfl) fun x => toNotebook_den x
theorem toEdit_callable : callable Try.prog 72 = true := by kernel_rfl
theorem toEdit_den (a : GEdit) : denF { tt := tt, fs := [toCellFS] } [] Try.f72 toEditFS.ps toEditFS.rs toEditFS.ex a = toEdit a := by kernel_rfl
theorem toEdit_sound : Sound Try.prog toEditFS :=
  sound_of_den (E := { tt := tt, fs := [toCellFS] }) (.cons toCell_callable toCell_sound (.nil tt_ok)) mixed_ok [] (fn := Try.f72) (by kernel_rfl) fun x => toEdit_den x
theorem toEditS_callable : callable Try.prog 16 = true := by kernel_rfl
theorem toEditS_den (a : List GEdit) : denF { tt := tt, fs := [toEditFS] } [(3, { n := 23, its := [.t 0 (.ro (.list (.base .edit))), .t 3 (.own (.base .edit) true true 0), .t 4 (.ro (.base .int))], boxes := [], ptrs := [] })] Try.f16 toEditSFS.ps toEditSFS.rs toEditSFS.ex a = toEditS a := by kernel_rfl
theorem toEditS_sound : Sound Try.prog toEditSFS :=
  sound_of_den (E := { tt := tt, fs := [toEditFS] }) (.cons toEdit_callable toEdit_sound (.nil tt_ok)) mixed_ok [(3, { n := 23, its := [.t 0 (.ro (.list (.base .edit))), .t 3 (.own (.base .edit) true true 0), .t 4 (.ro (.base .int))], boxes := [], ptrs := [] })] (fn := Try.f16) (by kernel_rfl) fun x => toEditS_den x
theorem iWithin_callable : callable Try.prog 86 = true := by kernel_rfl
theorem iWithin_den (a : Int) (b : Int) (c : Int) : denF { tt := tt, fs := [] } [] Try.f86 iWithinFS.ps iWithinFS.rs iWithinFS.ex (a, b, c) = iWithin a b c := by kernel_rfl
theorem iWithin_sound : Sound Try.prog iWithinFS :=
  sound_of_den (E := { tt := tt, fs := [] }) (.nil tt_ok) mixed_ok [] (fn := Try.f86) (by kernel_rfl) fun x => iWithin_den x.1 x.2.1 x.2.2
end Go.Proofs.Ytmfhbmfadapdbaa
