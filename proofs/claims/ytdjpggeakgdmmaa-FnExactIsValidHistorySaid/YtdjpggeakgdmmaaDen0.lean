/- The functions compute their models, by gen.py. -/
import Derived.Test.YtdjpggeakgdmmaaEnvs
namespace Go.Proofs.Ytdjpggeakgdmmaa
open Go.Abs Go.Proofs
set_option maxRecDepth 100000
theorem szCell_callable : callable Try.prog 125 = true := by kernel_rfl
theorem szCell_den (a : GCell) (b : Int) : denF { tt := tt, fs := [] } [] Try.f125 szCellFS.ps szCellFS.rs szCellFS.ex (a, b) = szCell a b := by kernel_rfl
theorem szCell_sound : Sound Try.prog szCellFS :=
  sound_of_den (E := { tt := tt, fs := [] }) (.nil tt_ok) mixed_ok [] (fn := Try.f125) (by kernel_rfl) fun x => szCell_den x.1 x.2
theorem szCellS_callable : callable Try.prog 74 = true := by kernel_rfl
theorem szCellS_den (a : List GCell) (b : Int) : denF { tt := tt, fs := [szCellFS] } [(5, { n := 27, its := [.t 0 (.ro (.list (.base .cell))), .t 1 (.ro (.base .int)), .t 5 (.ro (.base .int))], boxes := [], ptrs := [] })] Try.f74 szCellSFS.ps szCellSFS.rs szCellSFS.ex (a, b) = szCellS a b := by kernel_rfl
theorem szCellS_sound : Sound Try.prog szCellSFS :=
  sound_of_den (E := { tt := tt, fs := [szCellFS] }) (.cons szCell_callable szCell_sound (.nil tt_ok)) mixed_ok [(5, { n := 27, its := [.t 0 (.ro (.list (.base .cell))), .t 1 (.ro (.base .int)), .t 5 (.ro (.base .int))], boxes := [], ptrs := [] })] (fn := Try.f74) (by kernel_rfl) fun x => szCellS_den x.1 x.2
theorem szNotebook_callable : callable Try.prog 15 = true := by kernel_rfl
theorem szNotebook_den (a : GNotebook) (b : Int) : denF { tt := tt, fs := [szCellSFS] } [] Try.f15 szNotebookFS.ps szNotebookFS.rs szNotebookFS.ex (a, b) = szNotebook a b := by kernel_rfl
theorem szNotebook_sound : Sound Try.prog szNotebookFS :=
  sound_of_den (E := { tt := tt, fs := [szCellSFS] }) (.cons szCellS_callable szCellS_sound (.nil tt_ok)) mixed_ok [] (fn := Try.f15) (by kernel_rfl) fun x => szNotebook_den x.1 x.2
theorem szEdit_callable : callable Try.prog 107 = true := by kernel_rfl
theorem szEdit_den (a : GEdit) (b : Int) : denF { tt := tt, fs := [szCellFS] } [] Try.f107 szEditFS.ps szEditFS.rs szEditFS.ex (a, b) = szEdit a b := by kernel_rfl
theorem szEdit_sound : Sound Try.prog szEditFS :=
  sound_of_den (E := { tt := tt, fs := [szCellFS] }) (.cons szCell_callable szCell_sound (.nil tt_ok)) mixed_ok [] (fn := Try.f107) (by kernel_rfl) fun x => szEdit_den x.1 x.2
theorem szEditS_callable : callable Try.prog 69 = true := by kernel_rfl
theorem szEditS_den (a : List GEdit) (b : Int) : denF { tt := tt, fs := [szEditFS] } [(5, { n := 27, its := [.t 0 (.ro (.list (.base .edit))), .t 1 (.ro (.base .int)), .t 5 (.ro (.base .int))], boxes := [], ptrs := [] })] Try.f69 szEditSFS.ps szEditSFS.rs szEditSFS.ex (a, b) = szEditS a b := by kernel_rfl
theorem szEditS_sound : Sound Try.prog szEditSFS :=
  sound_of_den (E := { tt := tt, fs := [szEditFS] }) (.cons szEdit_callable szEdit_sound (.nil tt_ok)) mixed_ok [(5, { n := 27, its := [.t 0 (.ro (.list (.base .edit))), .t 1 (.ro (.base .int)), .t 5 (.ro (.base .int))], boxes := [], ptrs := [] })] (fn := Try.f69) (by kernel_rfl) fun x => szEditS_den x.1 x.2
theorem szNode_callable : callable Try.prog 141 = true := by kernel_rfl
theorem szNode_den (a : GNode) (b : Int) : denF { tt := tt, fs := [szEditSFS] } [] Try.f141 szNodeFS.ps szNodeFS.rs szNodeFS.ex (a, b) = szNode a b := by kernel_rfl
theorem szNode_sound : Sound Try.prog szNodeFS :=
  sound_of_den (E := { tt := tt, fs := [szEditSFS] }) (.cons szEditS_callable szEditS_sound (.nil tt_ok)) mixed_ok [] (fn := Try.f141) (by kernel_rfl) fun x => szNode_den x.1 x.2
theorem szNodeS_callable : callable Try.prog 99 = true := by kernel_rfl
theorem szNodeS_den (a : List GNode) (b : Int) : denF { tt := tt, fs := [szNodeFS] } [(5, { n := 27, its := [.t 0 (.ro (.list (.base .node))), .t 1 (.ro (.base .int)), .t 5 (.ro (.base .int))], boxes := [], ptrs := [] })] Try.f99 szNodeSFS.ps szNodeSFS.rs szNodeSFS.ex (a, b) = szNodeS a b := by kernel_rfl
theorem szNodeS_sound : Sound Try.prog szNodeSFS :=
  sound_of_den (E := { tt := tt, fs := [szNodeFS] }) (.cons szNode_callable szNode_sound (.nil tt_ok)) mixed_ok [(5, { n := 27, its := [.t 0 (.ro (.list (.base .node))), .t 1 (.ro (.base .int)), .t 5 (.ro (.base .int))], boxes := [], ptrs := [] })] (fn := Try.f99) (by kernel_rfl) fun x => szNodeS_den x.1 x.2
theorem szHistory_callable : callable Try.prog 44 = true := by kernel_rfl
theorem szHistory_den (a : GHistory) (b : Int) : denF { tt := tt, fs := [szNotebookFS, szNodeSFS] } [] Try.f44 szHistoryFS.ps szHistoryFS.rs szHistoryFS.ex (a, b) = szHistory a b := by kernel_rfl
theorem szHistory_sound : Sound Try.prog szHistoryFS :=
  sound_of_den (E := { tt := tt, fs := [szNotebookFS, szNodeSFS] }) (.cons szNotebook_callable szNotebook_sound (.cons szNodeS_callable szNodeS_sound (.nil tt_ok))) mixed_ok [] (fn := Try.f44) (by kernel_rfl) fun x => szHistory_den x.1 x.2
theorem sL1In_callable : callable Try.prog 100 = true := by kernel_rfl
theorem sL1In_den (a : Int) (b : Int) (c : Int) : denF { tt := tt, fs := [] } [] Try.f100 sL1InFS.ps sL1InFS.rs sL1InFS.ex (a, b, c) = sL1In a b c := by kernel_rfl
theorem sL1In_sound : Sound Try.prog sL1InFS :=
  sound_of_den (E := { tt := tt, fs := [] }) (.nil tt_ok) mixed_ok [] (fn := Try.f100) (by kernel_rfl) fun x => sL1In_den x.1 x.2.1 x.2.2
theorem sCellIndex_callable : callable Try.prog 75 = true := by kernel_rfl
theorem sCellIndex_den (a : GNotebook) (b : Int) : denF { tt := tt, fs := [] } [(2, { n := 22, its := [.t 1 (.ro (.base .int)), .b 2 0 (.ro (.list (.base .cell))), .t 5 (.ro (.base .int))], boxes := [(2, 1)], ptrs := [(2, 2, 0)] })] Try.f75 sCellIndexFS.ps sCellIndexFS.rs sCellIndexFS.ex (a, b) = sCellIndex a b := by kernel_rfl
theorem sCellIndex_sound : Sound Try.prog sCellIndexFS :=
  sound_of_den (E := { tt := tt, fs := [] }) (.nil tt_ok) mixed_ok [(2, { n := 22, its := [.t 1 (.ro (.base .int)), .b 2 0 (.ro (.list (.base .cell))), .t 5 (.ro (.base .int))], boxes := [(2, 1)], ptrs := [(2, 2, 0)] })] (fn := Try.f75) (by kernel_rfl) fun x => sCellIndex_den x.1 x.2
theorem sIsPrintable_callable : callable Try.prog 158 = true := by kernel_rfl
theorem sIsPrintable_den (a : Str) : denF { tt := tt, fs := [] } [(2, { n := 23, its := [.t 0 (.ro (.base .str)), .t 3 (.ro (.base .int))], boxes := [], ptrs := [] })] Try.f158 sIsPrintableFS.ps sIsPrintableFS.rs sIsPrintableFS.ex a = sIsPrintable a := by kernel_rfl
theorem sIsPrintable_sound : Sound Try.prog sIsPrintableFS :=
  sound_of_den (E := { tt := tt, fs := [] }) (.nil tt_ok) mixed_ok [(2, { n := 23, its := [.t 0 (.ro (.base .str)), .t 3 (.ro (.base .int))], boxes := [], ptrs := [] })] (fn := Try.f158) (by kernel_rfl) fun x => sIsPrintable_den x
theorem sL2Shape_callable : callable Try.prog 170 = true := by kernel_rfl
theorem sL2Shape_den (a : Str) : denF { tt := tt, fs := [] } [(2, { n := 45, its := [.t 0 (.ro (.base .str)), .t 3 (.ro (.base .int))], boxes := [], ptrs := [] })] Try.f170 sL2ShapeFS.ps sL2ShapeFS.rs sL2ShapeFS.ex a = sL2Shape a := by kernel_rfl
theorem sL2Shape_sound : Sound Try.prog sL2ShapeFS :=
  sound_of_den (E := { tt := tt, fs := [] }) (.nil tt_ok) mixed_ok [(2, { n := 45, its := [.t 0 (.ro (.base .str)), .t 3 (.ro (.base .int))], boxes := [], ptrs := [] })] (fn := Try.f170) (by kernel_rfl) fun x => sL2Shape_den x
theorem sL1Has_callable : callable Try.prog 186 = true := by kernel_rfl
theorem sL1Has_den (a : List Str) (b : Str) : denF { tt := tt, fs := [] } [(2, { n := 18, its := [.t 0 (.ro (.list (.base .str))), .t 1 (.ro (.base .str)), .t 5 (.ro (.base .int))], boxes := [], ptrs := [] })] Try.f186 sL1HasFS.ps sL1HasFS.rs sL1HasFS.ex (a, b) = sL1Has a b := by kernel_rfl
theorem sL1Has_sound : Sound Try.prog sL1HasFS :=
  sound_of_den (E := { tt := tt, fs := [] }) (.nil tt_ok) mixed_ok [(2, { n := 18, its := [.t 0 (.ro (.list (.base .str))), .t 1 (.ro (.base .str)), .t 5 (.ro (.base .int))], boxes := [], ptrs := [] })] (fn := Try.f186) (by kernel_rfl) fun x => sL1Has_den x.1 x.2
theorem sL2Reserved_callable : callable Try.prog 187 = true := by kernel_rfl
theorem sL2Reserved_den : denF { tt := tt, fs := [] } [] Try.f187 sL2ReservedFS.ps sL2ReservedFS.rs sL2ReservedFS.ex () = sL2Reserved := by kernel_rfl
theorem sL2Reserved_sound : Sound Try.prog sL2ReservedFS :=
  sound_of_den (E := { tt := tt, fs := [] }) (.nil tt_ok) mixed_ok [] (fn := Try.f187) (by kernel_rfl) fun x => sL2Reserved_den 
theorem sIsReserved_callable : callable Try.prog 171 = true := by kernel_rfl
theorem sIsReserved_den (a : Str) : denF { tt := tt, fs := [sL1HasFS, sL2ReservedFS] } [] Try.f171 sIsReservedFS.ps sIsReservedFS.rs sIsReservedFS.ex a = sIsReserved a := by kernel_rfl
theorem sIsReserved_sound : Sound Try.prog sIsReservedFS :=
  sound_of_den (E := { tt := tt, fs := [sL1HasFS, sL2ReservedFS] }) (.cons sL1Has_callable sL1Has_sound (.cons sL2Reserved_callable sL2Reserved_sound (.nil tt_ok))) mixed_ok [] (fn := Try.f171) (by kernel_rfl) fun x => sIsReserved_den x
theorem sIsValidName_callable : callable Try.prog 159 = true := by kernel_rfl
theorem sIsValidName_den (a : Str) : denF { tt := tt, fs := [sL2ShapeFS, sIsReservedFS] } [] Try.f159 sIsValidNameFS.ps sIsValidNameFS.rs sIsValidNameFS.ex a = sIsValidName a := by kernel_rfl
theorem sIsValidName_sound : Sound Try.prog sIsValidNameFS :=
  sound_of_den (E := { tt := tt, fs := [sL2ShapeFS, sIsReservedFS] }) (.cons sL2Shape_callable sL2Shape_sound (.cons sIsReserved_callable sIsReserved_sound (.nil tt_ok))) mixed_ok [] (fn := Try.f159) (by kernel_rfl) fun x => sIsValidName_den x
theorem sIsValidCell_callable : callable Try.prog 142 = true := by kernel_rfl
theorem sIsValidCell_den (a : GCell) : denF { tt := tt, fs := [sL1InFS, sIsPrintableFS, sIsValidNameFS] } [] Try.f142 sIsValidCellFS.ps sIsValidCellFS.rs sIsValidCellFS.ex a = sIsValidCell a := by kernel_rfl
theorem sIsValidCell_sound : Sound Try.prog sIsValidCellFS :=
  sound_of_den (E := { tt := tt, fs := [sL1InFS, sIsPrintableFS, sIsValidNameFS] }) (.cons sL1In_callable sL1In_sound (.cons sIsPrintable_callable sIsPrintable_sound (.cons sIsValidName_callable sIsValidName_sound (.nil tt_ok)))) mixed_ok [] (fn := Try.f142) (by kernel_rfl) fun x => sIsValidCell_den x
theorem sIsValidNotebook_callable : callable Try.prog 101 = true := by kernel_rfl
theorem sIsValidNotebook_den (a : GNotebook) : denF { tt := tt, fs := [sCellIndexFS, sIsValidCellFS] } [(2, { n := 34, its := [.b 1 0 (.ro (.list (.base .cell))), .t 3 (.ro (.base .int))], boxes := [(1, 1)], ptrs := [(1, 1, 0)] })] Try.f101 sIsValidNotebookFS.ps sIsValidNotebookFS.rs sIsValidNotebookFS.ex a = sIsValidNotebook a := by kernel_rfl
theorem sIsValidNotebook_sound : Sound Try.prog sIsValidNotebookFS :=
  sound_of_den (E := { tt := tt, fs := [sCellIndexFS, sIsValidCellFS] }) (.cons sCellIndex_callable sCellIndex_sound (.cons sIsValidCell_callable sIsValidCell_sound (.nil tt_ok))) mixed_ok [(2, { n := 34, its := [.b 1 0 (.ro (.list (.base .cell))), .t 3 (.ro (.base .int))], boxes := [(1, 1)], ptrs := [(1, 1, 0)] })] (fn := Try.f101) (by kernel_rfl) fun x => sIsValidNotebook_den x
theorem sIsValidHistory_callable : callable Try.prog 45 = true := by kernel_rfl
theorem sIsValidHistory_den (a : GHistory) : denF { tt := tt, fs := [sL1InFS, sIsValidNotebookFS] } [(3, { n := 53, its := [.b 1 0 (.ro (.list (.base .cell))), .b 1 1 (.ro (.list (.base .node))), .b 1 2 (.ro (.base .int)), .t 3 (.ro (.base .int)), .t 4 (.ro (.base .int))], boxes := [(1, 3)], ptrs := [(1, 1, 0)] })] Try.f45 sIsValidHistoryFS.ps sIsValidHistoryFS.rs sIsValidHistoryFS.ex a = sIsValidHistory a := by kernel_rfl
theorem sIsValidHistory_sound : Sound Try.prog sIsValidHistoryFS :=
  sound_of_den (E := { tt := tt, fs := [sL1InFS, sIsValidNotebookFS] }) (.cons sL1In_callable sL1In_sound (.cons sIsValidNotebook_callable sIsValidNotebook_sound (.nil tt_ok))) mixed_ok [(3, { n := 53, its := [.b 1 0 (.ro (.list (.base .cell))), .b 1 1 (.ro (.list (.base .node))), .b 1 2 (.ro (.base .int)), .t 3 (.ro (.base .int)), .t 4 (.ro (.base .int))], boxes := [(1, 3)], ptrs := [(1, 1, 0)] })] (fn := Try.f45) (by kernel_rfl) fun x => sIsValidHistory_den x
theorem toCell_callable : callable Try.prog 126 = true := by kernel_rfl
theorem toCell_den (a : GCell) : denF { tt := tt, fs := [] } [] Try.f126 toCellFS.ps toCellFS.rs toCellFS.ex a = toCell a := by kernel_rfl
theorem toCell_sound : Sound Try.prog toCellFS :=
  sound_of_den (E := { tt := tt, fs := [] }) (.nil tt_ok) mixed_ok [] (fn := Try.f126) (by kernel_rfl) fun x => toCell_den x
theorem toCellS_callable : callable Try.prog 76 = true := by kernel_rfl
theorem toCellS_den (a : List GCell) : denF { tt := tt, fs := [toCellFS] } [(3, { n := 23, its := [.t 0 (.ro (.list (.base .cell))), .t 3 (.own (.base .cell) true true 0), .t 4 (.ro (.base .int))], boxes := [], ptrs := [] })] Try.f76 toCellSFS.ps toCellSFS.rs toCellSFS.ex a = toCellS a := by kernel_rfl
theorem toCellS_sound : Sound Try.prog toCellSFS :=
  sound_of_den (E := { tt := tt, fs := [toCellFS] }) (.cons toCell_callable toCell_sound (.nil tt_ok)) mixed_ok [(3, { n := 23, its := [.t 0 (.ro (.list (.base .cell))), .t 3 (.own (.base .cell) true true 0), .t 4 (.ro (.base .int))], boxes := [], ptrs := [] })] (fn := Try.f76) (by kernel_rfl) fun x => toCellS_den x
theorem toNotebook_callable : callable Try.prog 17 = true := by kernel_rfl
theorem toNotebook_den (a : GNotebook) : denF { tt := tt, fs := [toCellSFS] } [] Try.f17 toNotebookFS.ps toNotebookFS.rs toNotebookFS.ex a = toNotebook a := by kernel_rfl
theorem toNotebook_sound : Sound Try.prog toNotebookFS :=
  sound_of_den (E := { tt := tt, fs := [toCellSFS] }) (.cons toCellS_callable toCellS_sound (.nil tt_ok)) mixed_ok [] (fn := Try.f17) (by kernel_rfl) fun x => toNotebook_den x
theorem toEdit_callable : callable Try.prog 110 = true := by kernel_rfl
theorem toEdit_den (a : GEdit) : denF { tt := tt, fs := [toCellFS] } [] Try.f110 toEditFS.ps toEditFS.rs toEditFS.ex a = toEdit a := by kernel_rfl
theorem toEdit_sound : Sound Try.prog toEditFS :=
  sound_of_den (E := { tt := tt, fs := [toCellFS] }) (.cons toCell_callable toCell_sound (.nil tt_ok)) mixed_ok [] (fn := Try.f110) (by kernel_rfl) fun x => toEdit_den x
theorem toEditS_callable : callable Try.prog 71 = true := by kernel_rfl
theorem toEditS_den (a : List GEdit) : denF { tt := tt, fs := [toEditFS] } [(3, { n := 23, its := [.t 0 (.ro (.list (.base .edit))), .t 3 (.own (.base .edit) true true 0), .t 4 (.ro (.base .int))], boxes := [], ptrs := [] })] Try.f71 toEditSFS.ps toEditSFS.rs toEditSFS.ex a = toEditS a := by kernel_rfl
theorem toEditS_sound : Sound Try.prog toEditSFS :=
  sound_of_den (E := { tt := tt, fs := [toEditFS] }) (.cons toEdit_callable toEdit_sound (.nil tt_ok)) mixed_ok [(3, { n := 23, its := [.t 0 (.ro (.list (.base .edit))), .t 3 (.own (.base .edit) true true 0), .t 4 (.ro (.base .int))], boxes := [], ptrs := [] })] (fn := Try.f71) (by kernel_rfl) fun x => toEditS_den x
theorem toNode_callable : callable Try.prog 143 = true := by kernel_rfl
theorem toNode_den (a : GNode) : denF { tt := tt, fs := [toEditSFS] } [] Try.f143 toNodeFS.ps toNodeFS.rs toNodeFS.ex a = toNode a := by kernel_rfl
theorem toNode_sound : Sound Try.prog toNodeFS :=
  sound_of_den (E := { tt := tt, fs := [toEditSFS] }) (.cons toEditS_callable toEditS_sound (.nil tt_ok)) mixed_ok [] (fn := Try.f143) (by kernel_rfl) fun x => toNode_den x
theorem toNodeS_callable : callable Try.prog 102 = true := by kernel_rfl
theorem toNodeS_den (a : List GNode) : denF { tt := tt, fs := [toNodeFS] } [(3, { n := 23, its := [.t 0 (.ro (.list (.base .node))), .t 3 (.own (.base .node) true true 0), .t 4 (.ro (.base .int))], boxes := [], ptrs := [] })] Try.f102 toNodeSFS.ps toNodeSFS.rs toNodeSFS.ex a = toNodeS a := by kernel_rfl
theorem toNodeS_sound : Sound Try.prog toNodeSFS :=
  sound_of_den (E := { tt := tt, fs := [toNodeFS] }) (.cons toNode_callable toNode_sound (.nil tt_ok)) mixed_ok [(3, { n := 23, its := [.t 0 (.ro (.list (.base .node))), .t 3 (.own (.base .node) true true 0), .t 4 (.ro (.base .int))], boxes := [], ptrs := [] })] (fn := Try.f102) (by kernel_rfl) fun x => toNodeS_den x
theorem toHistory_callable : callable Try.prog 46 = true := by kernel_rfl
theorem toHistory_den (a : GHistory) : denF { tt := tt, fs := [toNotebookFS, toNodeSFS] } [] Try.f46 toHistoryFS.ps toHistoryFS.rs toHistoryFS.ex a = toHistory a := by kernel_rfl
theorem toHistory_sound : Sound Try.prog toHistoryFS :=
  sound_of_den (E := { tt := tt, fs := [toNotebookFS, toNodeSFS] }) (.cons toNotebook_callable toNotebook_sound (.cons toNodeS_callable toNodeS_sound (.nil tt_ok))) mixed_ok [] (fn := Try.f46) (by kernel_rfl) fun x => toHistory_den x
theorem iCellIndex_callable : callable Try.prog 77 = true := by kernel_rfl
theorem iCellIndex_den (a : GNotebook) (b : Int) : denF { tt := tt, fs := [] } [(2, { n := 21, its := [.t 1 (.ro (.base .int)), .t 8 (.ro (.list (.base .cell))), .t 9 (.ro (.base .int)), .t 10 (.ro (.base .int))], boxes := [], ptrs := [] })] Try.f77 iCellIndexFS.ps iCellIndexFS.rs iCellIndexFS.ex (a, b) = iCellIndex a b := by kernel_rfl
theorem iCellIndex_sound : Sound Try.prog iCellIndexFS :=
  sound_of_den (E := { tt := tt, fs := [] }) (.nil tt_ok) mixed_ok [(2, { n := 21, its := [.t 1 (.ro (.base .int)), .t 8 (.ro (.list (.base .cell))), .t 9 (.ro (.base .int)), .t 10 (.ro (.base .int))], boxes := [], ptrs := [] })] (fn := Try.f77) (by kernel_rfl) fun x => iCellIndex_den x.1 x.2
theorem iWithin_callable : callable Try.prog 104 = true := by kernel_rfl
theorem iWithin_den (a : Int) (b : Int) (c : Int) : denF { tt := tt, fs := [] } [] Try.f104 iWithinFS.ps iWithinFS.rs iWithinFS.ex (a, b, c) = iWithin a b c := by kernel_rfl
theorem iWithin_sound : Sound Try.prog iWithinFS :=
  sound_of_den (E := { tt := tt, fs := [] }) (.nil tt_ok) mixed_ok [] (fn := Try.f104) (by kernel_rfl) fun x => iWithin_den x.1 x.2.1 x.2.2
theorem iIsPrintable_callable : callable Try.prog 160 = true := by kernel_rfl
theorem iIsPrintable_den (a : Str) : denF { tt := tt, fs := [] } [(2, { n := 23, its := [.t 0 (.ro (.base .str)), .t 3 (.ro (.base .int))], boxes := [], ptrs := [] })] Try.f160 iIsPrintableFS.ps iIsPrintableFS.rs iIsPrintableFS.ex a = iIsPrintable a := by kernel_rfl
theorem iIsPrintable_sound : Sound Try.prog iIsPrintableFS :=
  sound_of_den (E := { tt := tt, fs := [] }) (.nil tt_ok) mixed_ok [(2, { n := 23, its := [.t 0 (.ro (.base .str)), .t 3 (.ro (.base .int))], boxes := [], ptrs := [] })] (fn := Try.f160) (by kernel_rfl) fun x => iIsPrintable_den x
end Go.Proofs.Ytdjpggeakgdmmaa
