/- The functions compute their models, by gen.py. -/
import Derived.Test.YtiedhibpaooldaaEnvs
namespace Go.Proofs.Ytiedhibpaooldaa
open Go.Abs Go.Proofs
set_option maxRecDepth 100000
theorem szCell_callable : callable Try.prog 122 = true := by kernel_rfl
theorem szCell_den (a : GCell) (b : Int) : denF { tt := tt, fs := [] } [] Try.f122 szCellFS.ps szCellFS.rs szCellFS.ex (a, b) = szCell a b := by kernel_rfl
theorem szCell_sound : Sound Try.prog szCellFS :=
  sound_of_den (E := { tt := tt, fs := [] }) (.nil tt_ok) mixed_ok [] (fn := Try.f122) (by kernel_rfl) fun x => szCell_den x.1 x.2
theorem szCellS_callable : callable Try.prog 70 = true := by kernel_rfl
theorem szCellS_den (a : List GCell) (b : Int) : denF { tt := tt, fs := [szCellFS] } [(5, { n := 27, its := [.t 0 (.ro (.list (.base .cell))), .t 1 (.ro (.base .int)), .t 5 (.ro (.base .int))], boxes := [], ptrs := [] })] Try.f70 szCellSFS.ps szCellSFS.rs szCellSFS.ex (a, b) = szCellS a b := by kernel_rfl
theorem szCellS_sound : Sound Try.prog szCellSFS :=
  sound_of_den (E := { tt := tt, fs := [szCellFS] }) (.cons szCell_callable szCell_sound (.nil tt_ok)) mixed_ok [(5, { n := 27, its := [.t 0 (.ro (.list (.base .cell))), .t 1 (.ro (.base .int)), .t 5 (.ro (.base .int))], boxes := [], ptrs := [] })] (fn := Try.f70) (by kernel_rfl) fun x => szCellS_den x.1 x.2
theorem szNotebook_callable : callable Try.prog 15 = true := by kernel_rfl
theorem szNotebook_den (a : GNotebook) (b : Int) : denF { tt := tt, fs := [szCellSFS] } [] Try.f15 szNotebookFS.ps szNotebookFS.rs szNotebookFS.ex (a, b) = szNotebook a b := by kernel_rfl
theorem szNotebook_sound : Sound Try.prog szNotebookFS :=
  sound_of_den (E := { tt := tt, fs := [szCellSFS] }) (.cons szCellS_callable szCellS_sound (.nil tt_ok)) mixed_ok [] (fn := Try.f15) (by kernel_rfl) fun x => szNotebook_den x.1 x.2
theorem sCellIndex_callable : callable Try.prog 71 = true := by kernel_rfl
theorem sCellIndex_den (a : GNotebook) (b : Int) : denF { tt := tt, fs := [] } [(2, { n := 22, its := [.t 1 (.ro (.base .int)), .b 2 0 (.ro (.list (.base .cell))), .t 5 (.ro (.base .int))], boxes := [(2, 1)], ptrs := [(2, 2, 0)] })] Try.f71 sCellIndexFS.ps sCellIndexFS.rs sCellIndexFS.ex (a, b) = sCellIndex a b := by kernel_rfl
theorem sCellIndex_sound : Sound Try.prog sCellIndexFS :=
  sound_of_den (E := { tt := tt, fs := [] }) (.nil tt_ok) mixed_ok [(2, { n := 22, its := [.t 1 (.ro (.base .int)), .b 2 0 (.ro (.list (.base .cell))), .t 5 (.ro (.base .int))], boxes := [(2, 1)], ptrs := [(2, 2, 0)] })] (fn := Try.f71) (by kernel_rfl) fun x => sCellIndex_den x.1 x.2
theorem sChangedVersions_callable : callable Try.prog 16 = true := by kernel_rfl
theorem sChangedVersions_den (a : GNotebook) (b : GNotebook) : denF { tt := tt, fs := [sCellIndexFS] } [(3, { n := 51, its := [.b 2 0 (.ro (.list (.base .cell))), .b 3 0 (.ro (.list (.base .cell))), .t 5 (.own (.base .int) true true 0), .t 6 (.ro (.base .int))], boxes := [(2, 1), (3, 1)], ptrs := [(2, 2, 0), (3, 3, 0)] })] Try.f16 sChangedVersionsFS.ps sChangedVersionsFS.rs sChangedVersionsFS.ex (a, b) = sChangedVersions a b := by kernel_rfl
theorem sChangedVersions_sound : Sound Try.prog sChangedVersionsFS :=
  sound_of_den (E := { tt := tt, fs := [sCellIndexFS] }) (.cons sCellIndex_callable sCellIndex_sound (.nil tt_ok)) mixed_ok [(3, { n := 51, its := [.b 2 0 (.ro (.list (.base .cell))), .b 3 0 (.ro (.list (.base .cell))), .t 5 (.own (.base .int) true true 0), .t 6 (.ro (.base .int))], boxes := [(2, 1), (3, 1)], ptrs := [(2, 2, 0), (3, 3, 0)] })] (fn := Try.f16) (by kernel_rfl) fun x => sChangedVersions_den x.1 x.2
theorem toCell_callable : callable Try.prog 123 = true := by kernel_rfl
theorem toCell_den (a : GCell) : denF { tt := tt, fs := [] } [] Try.f123 toCellFS.ps toCellFS.rs toCellFS.ex a = toCell a := by kernel_rfl
theorem toCell_sound : Sound Try.prog toCellFS :=
  sound_of_den (E := { tt := tt, fs := [] }) (.nil tt_ok) mixed_ok [] (fn := Try.f123) (by kernel_rfl) fun x => toCell_den x
theorem toCellS_callable : callable Try.prog 72 = true := by kernel_rfl
theorem toCellS_den (a : List GCell) : denF { tt := tt, fs := [toCellFS] } [(3, { n := 23, its := [.t 0 (.ro (.list (.base .cell))), .t 3 (.own (.base .cell) true true 0), .t 4 (.ro (.base .int))], boxes := [], ptrs := [] })] Try.f72 toCellSFS.ps toCellSFS.rs toCellSFS.ex a = toCellS a := by kernel_rfl
theorem toCellS_sound : Sound Try.prog toCellSFS :=
  sound_of_den (E := { tt := tt, fs := [toCellFS] }) (.cons toCell_callable toCell_sound (.nil tt_ok)) mixed_ok [(3, { n := 23, its := [.t 0 (.ro (.list (.base .cell))), .t 3 (.own (.base .cell) true true 0), .t 4 (.ro (.base .int))], boxes := [], ptrs := [] })] (fn := Try.f72) (by kernel_rfl) fun x => toCellS_den x
theorem toNotebook_callable : callable Try.prog 17 = true := by kernel_rfl
theorem toNotebook_den (a : GNotebook) : denF { tt := tt, fs := [toCellSFS] } [] Try.f17 toNotebookFS.ps toNotebookFS.rs toNotebookFS.ex a = toNotebook a := by kernel_rfl
theorem toNotebook_sound : Sound Try.prog toNotebookFS :=
  sound_of_den (E := { tt := tt, fs := [toCellSFS] }) (.cons toCellS_callable toCellS_sound (.nil tt_ok)) mixed_ok [] (fn := Try.f17) (by kernel_rfl) fun x => toNotebook_den x
theorem iCellIndex_callable : callable Try.prog 73 = true := by kernel_rfl
theorem iCellIndex_den (a : GNotebook) (b : Int) : denF { tt := tt, fs := [] } [(2, { n := 21, its := [.t 1 (.ro (.base .int)), .t 8 (.ro (.list (.base .cell))), .t 9 (.ro (.base .int)), .t 10 (.ro (.base .int))], boxes := [], ptrs := [] })] Try.f73 iCellIndexFS.ps iCellIndexFS.rs iCellIndexFS.ex (a, b) = iCellIndex a b := by kernel_rfl
theorem iCellIndex_sound : Sound Try.prog iCellIndexFS :=
  sound_of_den (E := { tt := tt, fs := [] }) (.nil tt_ok) mixed_ok [(2, { n := 21, its := [.t 1 (.ro (.base .int)), .t 8 (.ro (.list (.base .cell))), .t 9 (.ro (.base .int)), .t 10 (.ro (.base .int))], boxes := [], ptrs := [] })] (fn := Try.f73) (by kernel_rfl) fun x => iCellIndex_den x.1 x.2
theorem iChangedVersions_callable : callable Try.prog 18 = true := by kernel_rfl
theorem iChangedVersions_den (a : GNotebook) (b : GNotebook) : denF { tt := tt, fs := [iCellIndexFS] } [(3, { n := 41, its := [.b 3 0 (.ro (.list (.base .cell))), .t 5 (.own (.base .int) true true 0), .t 11 (.ro (.list (.base .cell))), .t 12 (.ro (.base .int)), .t 13 (.ro (.base .int))], boxes := [(3, 1)], ptrs := [(3, 3, 0)] })] Try.f18 iChangedVersionsFS.ps iChangedVersionsFS.rs iChangedVersionsFS.ex (a, b) = iChangedVersions a b := by kernel_rfl
theorem iChangedVersions_sound : Sound Try.prog iChangedVersionsFS :=
  sound_of_den (E := { tt := tt, fs := [iCellIndexFS] }) (.cons iCellIndex_callable iCellIndex_sound (.nil tt_ok)) mixed_ok [(3, { n := 41, its := [.b 3 0 (.ro (.list (.base .cell))), .t 5 (.own (.base .int) true true 0), .t 11 (.ro (.list (.base .cell))), .t 12 (.ro (.base .int)), .t 13 (.ro (.base .int))], boxes := [(3, 1)], ptrs := [(3, 3, 0)] })] (fn := Try.f18) (by kernel_rfl) fun x => iChangedVersions_den x.1 x.2
theorem eqIntS_callable : callable Try.prog 19 = true := by kernel_rfl
theorem eqIntS_den (a : List Int) (b : List Int) : denF { tt := tt, fs := [] } [(4, { n := 26, its := [.t 0 (.ro (.list (.base .int))), .t 1 (.ro (.list (.base .int))), .t 5 (.ro (.base .int))], boxes := [], ptrs := [] })] Try.f19 eqIntSFS.ps eqIntSFS.rs eqIntSFS.ex (a, b) = eqIntS a b := by kernel_rfl
theorem eqIntS_sound : Sound Try.prog eqIntSFS :=
  sound_of_den (E := { tt := tt, fs := [] }) (.nil tt_ok) mixed_ok [(4, { n := 26, its := [.t 0 (.ro (.list (.base .int))), .t 1 (.ro (.list (.base .int))), .t 5 (.ro (.base .int))], boxes := [], ptrs := [] })] (fn := Try.f19) (by kernel_rfl) fun x => eqIntS_den x.1 x.2
theorem eqCell_callable : callable Try.prog 124 = true := by kernel_rfl
theorem eqCell_den (a : GCell) (b : GCell) : denF { tt := tt, fs := [] } [] Try.f124 eqCellFS.ps eqCellFS.rs eqCellFS.ex (a, b) = eqCell a b := by kernel_rfl
theorem eqCell_sound : Sound Try.prog eqCellFS :=
  sound_of_den (E := { tt := tt, fs := [] }) (.nil tt_ok) mixed_ok [] (fn := Try.f124) (by kernel_rfl) fun x => eqCell_den x.1 x.2
theorem eqCellS_callable : callable Try.prog 74 = true := by kernel_rfl
theorem eqCellS_den (a : List GCell) (b : List GCell) : denF { tt := tt, fs := [eqCellFS] } [(4, { n := 27, its := [.t 0 (.ro (.list (.base .cell))), .t 1 (.ro (.list (.base .cell))), .t 5 (.ro (.base .int))], boxes := [], ptrs := [] })] Try.f74 eqCellSFS.ps eqCellSFS.rs eqCellSFS.ex (a, b) = eqCellS a b := by kernel_rfl
theorem eqCellS_sound : Sound Try.prog eqCellSFS :=
  sound_of_den (E := { tt := tt, fs := [eqCellFS] }) (.cons eqCell_callable eqCell_sound (.nil tt_ok)) mixed_ok [(4, { n := 27, its := [.t 0 (.ro (.list (.base .cell))), .t 1 (.ro (.list (.base .cell))), .t 5 (.ro (.base .int))], boxes := [], ptrs := [] })] (fn := Try.f74) (by kernel_rfl) fun x => eqCellS_den x.1 x.2
theorem eqNotebook_callable : callable Try.prog 20 = true := by kernel_rfl
theorem eqNotebook_den (a : GNotebook) (b : GNotebook) : denF { tt := tt, fs := [eqCellSFS] } [] Try.f20 eqNotebookFS.ps eqNotebookFS.rs eqNotebookFS.ex (a, b) = eqNotebook a b := by kernel_rfl
theorem eqNotebook_sound : Sound Try.prog eqNotebookFS :=
  sound_of_den (E := { tt := tt, fs := [eqCellSFS] }) (.cons eqCellS_callable eqCellS_sound (.nil tt_ok)) mixed_ok [] (fn := Try.f20) (by kernel_rfl) fun x => eqNotebook_den x.1 x.2
theorem markText_callable : callable Try.prog 103 = true := by kernel_rfl
theorem markText_den (a : Int) : denF { tt := tt, fs := [] } [(4, { n := 20, its := [.t 0 (.ro (.base .int)), .t 3 (.ro (.base .str))], boxes := [], ptrs := [] })] Try.f103 markTextFS.ps markTextFS.rs markTextFS.ex a = markText a := by kernel_rfl
theorem markText_sound : Sound Try.prog markTextFS :=
  sound_of_den (E := { tt := tt, fs := [] }) (.nil tt_ok) mixed_ok [(4, { n := 20, its := [.t 0 (.ro (.base .int)), .t 3 (.ro (.base .str))], boxes := [], ptrs := [] })] (fn := Try.f103) (by kernel_rfl) fun x => markText_den x
theorem heldIntS_callable : callable Try.prog 23 = true := by kernel_rfl
theorem heldIntS_den (a : List Int) (b : Int) : denF { tt := tt, fs := [] } [(2, { n := 21, its := [.t 0 (.ro (.list (.base .int))), .t 1 (.ro (.base .int)), .t 5 (.ro (.base .int))], boxes := [], ptrs := [] })] Try.f23 heldIntSFS.ps heldIntSFS.rs heldIntSFS.ex (a, b) = heldIntS a b := by kernel_rfl
theorem heldIntS_sound : Sound Try.prog heldIntSFS :=
  sound_of_den (E := { tt := tt, fs := [] }) (.nil tt_ok) mixed_ok [(2, { n := 21, its := [.t 0 (.ro (.list (.base .int))), .t 1 (.ro (.base .int)), .t 5 (.ro (.base .int))], boxes := [], ptrs := [] })] (fn := Try.f23) (by kernel_rfl) fun x => heldIntS_den x.1 x.2
theorem sL1In_callable : callable Try.prog 90 = true := by kernel_rfl
theorem sL1In_den (a : Int) (b : Int) (c : Int) : denF { tt := tt, fs := [] } [] Try.f90 sL1InFS.ps sL1InFS.rs sL1InFS.ex (a, b, c) = sL1In a b c := by kernel_rfl
theorem sL1In_sound : Sound Try.prog sL1InFS :=
  sound_of_den (E := { tt := tt, fs := [] }) (.nil tt_ok) mixed_ok [] (fn := Try.f90) (by kernel_rfl) fun x => sL1In_den x.1 x.2.1 x.2.2
theorem sIsPrintable_callable : callable Try.prog 150 = true := by kernel_rfl
theorem sIsPrintable_den (a : Str) : denF { tt := tt, fs := [] } [(2, { n := 23, its := [.t 0 (.ro (.base .str)), .t 3 (.ro (.base .int))], boxes := [], ptrs := [] })] Try.f150 sIsPrintableFS.ps sIsPrintableFS.rs sIsPrintableFS.ex a = sIsPrintable a := by kernel_rfl
theorem sIsPrintable_sound : Sound Try.prog sIsPrintableFS :=
  sound_of_den (E := { tt := tt, fs := [] }) (.nil tt_ok) mixed_ok [(2, { n := 23, its := [.t 0 (.ro (.base .str)), .t 3 (.ro (.base .int))], boxes := [], ptrs := [] })] (fn := Try.f150) (by kernel_rfl) fun x => sIsPrintable_den x
theorem sL2Shape_callable : callable Try.prog 169 = true := by kernel_rfl
theorem sL2Shape_den (a : Str) : denF { tt := tt, fs := [] } [(2, { n := 45, its := [.t 0 (.ro (.base .str)), .t 3 (.ro (.base .int))], boxes := [], ptrs := [] })] Try.f169 sL2ShapeFS.ps sL2ShapeFS.rs sL2ShapeFS.ex a = sL2Shape a := by kernel_rfl
theorem sL2Shape_sound : Sound Try.prog sL2ShapeFS :=
  sound_of_den (E := { tt := tt, fs := [] }) (.nil tt_ok) mixed_ok [(2, { n := 45, its := [.t 0 (.ro (.base .str)), .t 3 (.ro (.base .int))], boxes := [], ptrs := [] })] (fn := Try.f169) (by kernel_rfl) fun x => sL2Shape_den x
theorem sL1Has_callable : callable Try.prog 188 = true := by kernel_rfl
theorem sL1Has_den (a : List Str) (b : Str) : denF { tt := tt, fs := [] } [(2, { n := 18, its := [.t 0 (.ro (.list (.base .str))), .t 1 (.ro (.base .str)), .t 5 (.ro (.base .int))], boxes := [], ptrs := [] })] Try.f188 sL1HasFS.ps sL1HasFS.rs sL1HasFS.ex (a, b) = sL1Has a b := by kernel_rfl
theorem sL1Has_sound : Sound Try.prog sL1HasFS :=
  sound_of_den (E := { tt := tt, fs := [] }) (.nil tt_ok) mixed_ok [(2, { n := 18, its := [.t 0 (.ro (.list (.base .str))), .t 1 (.ro (.base .str)), .t 5 (.ro (.base .int))], boxes := [], ptrs := [] })] (fn := Try.f188) (by kernel_rfl) fun x => sL1Has_den x.1 x.2
theorem sL2Reserved_callable : callable Try.prog 189 = true := by kernel_rfl
theorem sL2Reserved_den : denF { tt := tt, fs := [] } [] Try.f189 sL2ReservedFS.ps sL2ReservedFS.rs sL2ReservedFS.ex () = sL2Reserved := by kernel_rfl
theorem sL2Reserved_sound : Sound Try.prog sL2ReservedFS :=
  sound_of_den (E := { tt := tt, fs := [] }) (.nil tt_ok) mixed_ok [] (fn := Try.f189) (by kernel_rfl) fun x => sL2Reserved_den 
theorem sIsReserved_callable : callable Try.prog 170 = true := by kernel_rfl
theorem sIsReserved_den (a : Str) : denF { tt := tt, fs := [sL1HasFS, sL2ReservedFS] } [] Try.f170 sIsReservedFS.ps sIsReservedFS.rs sIsReservedFS.ex a = sIsReserved a := by kernel_rfl
theorem sIsReserved_sound : Sound Try.prog sIsReservedFS :=
  sound_of_den (E := { tt := tt, fs := [sL1HasFS, sL2ReservedFS] }) (.cons sL1Has_callable sL1Has_sound (.cons sL2Reserved_callable sL2Reserved_sound (.nil tt_ok))) mixed_ok [] (fn := Try.f170) (by kernel_rfl) fun x => sIsReserved_den x
theorem sIsValidName_callable : callable Try.prog 151 = true := by kernel_rfl
theorem sIsValidName_den (a : Str) : denF { tt := tt, fs := [sL2ShapeFS, sIsReservedFS] } [] Try.f151 sIsValidNameFS.ps sIsValidNameFS.rs sIsValidNameFS.ex a = sIsValidName a := by kernel_rfl
theorem sIsValidName_sound : Sound Try.prog sIsValidNameFS :=
  sound_of_den (E := { tt := tt, fs := [sL2ShapeFS, sIsReservedFS] }) (.cons sL2Shape_callable sL2Shape_sound (.cons sIsReserved_callable sIsReserved_sound (.nil tt_ok))) mixed_ok [] (fn := Try.f151) (by kernel_rfl) fun x => sIsValidName_den x
theorem sIsValidCell_callable : callable Try.prog 125 = true := by kernel_rfl
theorem sIsValidCell_den (a : GCell) : denF { tt := tt, fs := [sL1InFS, sIsPrintableFS, sIsValidNameFS] } [] Try.f125 sIsValidCellFS.ps sIsValidCellFS.rs sIsValidCellFS.ex a = sIsValidCell a := by kernel_rfl
theorem sIsValidCell_sound : Sound Try.prog sIsValidCellFS :=
  sound_of_den (E := { tt := tt, fs := [sL1InFS, sIsPrintableFS, sIsValidNameFS] }) (.cons sL1In_callable sL1In_sound (.cons sIsPrintable_callable sIsPrintable_sound (.cons sIsValidName_callable sIsValidName_sound (.nil tt_ok)))) mixed_ok [] (fn := Try.f125) (by kernel_rfl) fun x => sIsValidCell_den x
theorem sIsValidNotebook_callable : callable Try.prog 76 = true := by kernel_rfl
theorem sIsValidNotebook_den (a : GNotebook) : denF { tt := tt, fs := [sCellIndexFS, sIsValidCellFS] } [(2, { n := 34, its := [.b 1 0 (.ro (.list (.base .cell))), .t 3 (.ro (.base .int))], boxes := [(1, 1)], ptrs := [(1, 1, 0)] })] Try.f76 sIsValidNotebookFS.ps sIsValidNotebookFS.rs sIsValidNotebookFS.ex a = sIsValidNotebook a := by kernel_rfl
theorem sIsValidNotebook_sound : Sound Try.prog sIsValidNotebookFS :=
  sound_of_den (E := { tt := tt, fs := [sCellIndexFS, sIsValidCellFS] }) (.cons sCellIndex_callable sCellIndex_sound (.cons sIsValidCell_callable sIsValidCell_sound (.nil tt_ok))) mixed_ok [(2, { n := 34, its := [.b 1 0 (.ro (.list (.base .cell))), .t 3 (.ro (.base .int))], boxes := [(1, 1)], ptrs := [(1, 1, 0)] })] (fn := Try.f76) (by kernel_rfl) fun x => sIsValidNotebook_den x
theorem sL17Copy_callable : callable Try.prog 77 = true := by kernel_rfl
theorem sL17Copy_den (a : GNotebook) : denF { tt := tt, fs := [] } [] Try.f77 sL17CopyFS.ps sL17CopyFS.rs sL17CopyFS.ex a = sL17Copy a := by kernel_rfl
theorem sL17Copy_sound : Sound Try.prog sL17CopyFS :=
  sound_of_den (E := { tt := tt, fs := [] }) (.nil tt_ok) mixed_ok [] (fn := Try.f77) (by kernel_rfl) fun x => sL17Copy_den x
theorem sNewHistory_callable : callable Try.prog 24 = true := by kernel_rfl
theorem sNewHistory_den (a : GNotebook) : denF { tt := tt, fs := [sIsValidNotebookFS, sL17CopyFS] } [] Try.f24 sNewHistoryFS.ps sNewHistoryFS.rs sNewHistoryFS.ex a = sNewHistory a := by kernel_rfl
theorem sNewHistory_sound : Sound Try.prog sNewHistoryFS :=
  sound_of_den (E := { tt := tt, fs := [sIsValidNotebookFS, sL17CopyFS] }) (.cons sIsValidNotebook_callable sIsValidNotebook_sound (.cons sL17Copy_callable sL17Copy_sound (.nil tt_ok))) mixed_ok [] (fn := Try.f24) (by kernel_rfl) fun x => sNewHistory_den x
theorem iWithin_callable : callable Try.prog 100 = true := by kernel_rfl
theorem iWithin_den (a : Int) (b : Int) (c : Int) : denF { tt := tt, fs := [] } [] Try.f100 iWithinFS.ps iWithinFS.rs iWithinFS.ex (a, b, c) = iWithin a b c := by kernel_rfl
theorem iWithin_sound : Sound Try.prog iWithinFS :=
  sound_of_den (E := { tt := tt, fs := [] }) (.nil tt_ok) mixed_ok [] (fn := Try.f100) (by kernel_rfl) fun x => iWithin_den x.1 x.2.1 x.2.2
theorem iIsPrintable_callable : callable Try.prog 152 = true := by kernel_rfl
theorem iIsPrintable_den (a : Str) : denF { tt := tt, fs := [] } [(2, { n := 23, its := [.t 0 (.ro (.base .str)), .t 3 (.ro (.base .int))], boxes := [], ptrs := [] })] Try.f152 iIsPrintableFS.ps iIsPrintableFS.rs iIsPrintableFS.ex a = iIsPrintable a := by kernel_rfl
theorem iIsPrintable_sound : Sound Try.prog iIsPrintableFS :=
  sound_of_den (E := { tt := tt, fs := [] }) (.nil tt_ok) mixed_ok [(2, { n := 23, its := [.t 0 (.ro (.base .str)), .t 3 (.ro (.base .int))], boxes := [], ptrs := [] })] (fn := Try.f152) (by kernel_rfl) fun x => iIsPrintable_den x
theorem iIsWord_callable : callable Try.prog 171 = true := by kernel_rfl
theorem iIsWord_den (a : Str) : denF { tt := tt, fs := [iWithinFS] } [(2, { n := 42, its := [.t 0 (.ro (.base .str)), .t 3 (.ro (.base .int))], boxes := [], ptrs := [] })] Try.f171 iIsWordFS.ps iIsWordFS.rs iIsWordFS.ex a = iIsWord a := by kernel_rfl
theorem iIsWord_sound : Sound Try.prog iIsWordFS :=
  sound_of_den (E := { tt := tt, fs := [iWithinFS] }) (.cons iWithin_callable iWithin_sound (.nil tt_ok)) mixed_ok [(2, { n := 42, its := [.t 0 (.ro (.base .str)), .t 3 (.ro (.base .int))], boxes := [], ptrs := [] })] (fn := Try.f171) (by kernel_rfl) fun x => iIsWord_den x
end Go.Proofs.Ytiedhibpaooldaa
