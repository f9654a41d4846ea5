/- The functions compute their models, by gen.py. -/
import Derived.Test.YtiedhibpaooldaaEnvs
namespace Go.Proofs.Ytiedhibpaooldaa
open Go.Abs Go.Proofs
set_option maxRecDepth 100000
theorem szCell_callable : callable Try.prog 122 = true := by kernel_rfl
theorem szCell_den (a : GCell) (b : Int) : denF { tt := tt, fs := [] } [] Try.f122 szCellFS.ps szCellFS.rs szCellFS.ex (a, b) = szCell a b := by kernel_rfl
theorem szCell_sound : Sound Try.prog szCellFS :=
  sound_of_den (E := { tt := tt, fs := [] }) (.nil tt_ok) mixed_ok [] (fn := Try.f122) (by kernel_rfl) fun x => szCell_den x.1 x.2
theorem szCellS_callable : callable Try.prog 70 = true := by kernel_rfl
theorem szCellS_den (a : List GCell) (b : Int) : denF { tt := tt, fs := [szCellFS] } [(5, { n := 27, its := [.t 0 (.ro (.list (.base .cell))), .t 1 (.ro (.base .int)), .t 5 (.ro (.base .int))], boxes := [], ptrs := [] })] Try.f70 szCellSFS.ps szCellSFS.rs szCellSFS.ex (a, b) = szCellS a b := by kernel_rfl
theorem szCellS_sound : Sound Try.prog szCellSFS :=
  sound_of_den (E := { tt := tt, fs := [szCellFS] }) (.cons szCell_callable szCell_sound (.nil tt_ok)) mixed_ok [(5, { n := 27, its := [.t 0 (.ro (.list (.base .cell))), .t 1 (.ro (.base .int)), .t 5 (.ro (.base .int))], boxes := [], ptrs := [] })] (fn := Try.f70) (by kernel_rfl) fun x => szCellS_den x.1 x.2
theorem szNotebook_callable : callable Try.prog 15 = true := by kernel_rfl
theorem szNotebook_den (a : GNotebook) (b : Int) : denF { tt := tt, fs := [szCellSFS] } [] Try.f15 szNotebookFS.ps szNotebookFS.rs szNotebookFS.ex (a, b) = szNotebook a b := by kernel_rfl
theorem szNotebook_sound : Sound Try.prog szNotebookFS :=
  sound_of_den (E := { tt := tt, fs := [szCellSFS] }) (.cons szCellS_callable szCellS_sound (.nil tt_ok)) mixed_ok [] (fn := Try.f15) (by kernel_rfl) fun x => szNotebook_den x.1 x.2
theorem sCellIndex_callable : callable Try.prog 71 = true := by kernel_rfl
theorem sCellIndex_den (a : GNotebook) (b : Int) : denF { tt := tt, fs := [] } [(2, { n := 22, its := [.t 1 (.ro (.base .int)), .b 2 0 (.ro (.list (.base .cell))), .t 5 (.ro (.base .int))], boxes := [(2, 1)], ptrs := [(2, 2, 0)] })] Try.f71 sCellIndexFS.ps sCellIndexFS.rs sCellIndexFS.ex (a, b) = sCellIndex a b := by kernel_rfl
theorem sCellIndex_sound : Sound Try.prog sCellIndexFS :=
  sound_of_den (E := { tt := tt, fs := [] }) (.nil tt_ok) mixed_ok [(2, { n := 22, its := [.t 1 (.ro (.base .int)), .b 2 0 (.ro (.list (.base .cell))), .t 5 (.ro (.base .int))], boxes := [(2, 1)], ptrs := [(2, 2, 0)] })] (fn := Try.f71) (by kernel_rfl) fun x => sCellIndex_den x.1 x.2
theorem sChangedVersions_callable : callable Try.prog 16 = true := by kernel_rfl
theorem sChangedVersions_den (a : GNotebook) (b : GNotebook) : denF { tt := tt, fs := [sCellIndexFS] } [(3, { n := 51, its := [.b 2 0 (.ro (.list (.base .cell))), .b 3 0 (.ro (.list (.base .cell))), .t 5 (.own (.base .int) true true 0), .t 6 (.ro (.base .int))], boxes := [(2, 1), (3, 1)], ptrs := [(2, 2, 0), (3, 3, 0)] })] Try.f16 sChangedVersionsFS.ps sChangedVersionsFS.rs sChangedVersionsFS.ex (a, b) = sChangedVersions a b := by kernel_rfl
theorem sChangedVersions_sound : Sound Try.prog sChangedVersionsFS :=
  sound_of_den (E := { tt := tt, fs := [sCellIndexFS] }) (.cons sCellIndex_callable sCellIndex_sound (.nil tt_ok)) mixed_ok [(3, { n := 51, its := [.b 2 0 (.ro (.list (.base .cell))), .b 3 0 (.ro (.list (.base .cell))), .t 5 (.own (.base .int) true true 0), .t 6 (.ro (.base .int))], boxes := [(2, 1), (3, 1)], ptrs := [(2, 2, 0), (3, 3, 0)] })] (fn := Try.f16) (by kernel_rfl) fun x => sChangedVersions_den x.1 x.2
theorem toCell_callable : callable Try.prog 123 = true := by kernel_rfl
theorem toCell_den (a : GCell) : denF { tt := tt, fs := [] } [] Try.f123 toCellFS.ps toCellFS.rs toCellFS.ex a = toCell a := by kernel_rfl
theorem toCell_sound : Sound Try.prog toCellFS :=
  sound_of_den (E := { tt := tt, fs := [] }) (.nil tt_ok) mixed_ok [] (fn := Try.f123) (by kernel_rfl) fun x => toCell_den x
theorem toCellS_callable : callable Try.prog 72 = true := by kernel_rfl
theorem toCellS_den (a : List GCell) : denF { tt := tt, fs := [toCellFS] } [(3, { n := 23, its := [.t 0 (.ro (.list (.base .cell))), .t 3 (.own (.base .cell) true true 0), .t 4 (.ro (.base .int))], boxes := [], ptrs := [] })] Try.f72 toCellSFS.ps toCellSFS.rs toCellSFS.ex a = toCellS a := by kernel_rfl
theorem toCellS_sound : Sound Try.prog toCellSFS :=
  sound_of_den (E := { tt := tt, fs := [toCellFS] }) (.cons toCell_callable toCell_sound (.nil tt_ok)) mixed_ok [(3, { n := 23, its := [.t 0 (.ro (.list (.base .cell))), .t 3 (.own (.base .cell) true true 0), .t 4 (.ro (.base .int))], boxes := [], ptrs := [] })] (fn := Try.f72) (by kernel_rfl) fun x => toCellS_den x
theorem toNotebook_callable : callable Try.prog 17 = true := by kernel_rfl
theorem toNotebook_den (a : GNotebook) : denF { tt := tt, fs := [toCellSFS] } [] Try.f17 toNotebookFS.ps toNotebookFS.rs toNotebookFS.ex a = toNotebook a := by kernel_rfl
theorem toNotebook_sound : Sound Try.prog toNotebookFS :=
  sound_of_den (E := { tt := tt, fs := [toCellSFS] }) (.cons toCellS_callable toCellS_sound (.nil tt_ok)) mixed_ok [] (fn := Try.f17) (by kernel_rfl) fun x => toNotebook_den x
theorem iCellIndex_callable : callable Try.prog 73 = true := by kernel_rfl
theorem iCellIndex_den (a : GNotebook) (b : Int) : denF { tt := tt, fs := [] } [(2, { n := 21, its := [.t 1 (.ro (.base .int)), .t 8 (.ro (.list (.base .cell))), .t 9 (.ro (.base .int)), .t 10 (.ro (.base .int))], boxes := [], ptrs := [] })] Try.f73 iCellIndexFS.ps iCellIndexFS.rs iCellIndexFS.ex (a, b) = iCellIndex a b := by kernel_rfl
theorem iCellIndex_sound : Sound Try.prog iCellIndexFS :=
  sound_of_den (E := { tt := tt, fs := [] }) (.nil tt_ok) mixed_ok [(2, { n := 21, its := [.t 1 (.ro (.base .int)), .t 8 (.ro (.list (.base .cell))), .t 9 (.ro (.base .int)), .t 10 (.ro (.base .int))], boxes := [], ptrs := [] })] (fn := Try.f73) (by kernel_rfl) fun x => iCellIndex_den x.1 x.2
theorem iChangedVersions_callable : callable Try.prog 18 = true := by kernel_rfl
theorem iChangedVersions_den (a : GNotebook) (b : GNotebook) : denF { tt := tt, fs := [iCellIndexFS] } [(3, { n := 41, its := [.b 3 0 (.ro (.list (.base .cell))), .t 5 (.own (.base .int) true true 0), .t 11 (.ro (.list (.base .cell))), .t 12 (.ro (.base .int)), .t 13 (.ro (.base .int))], boxes := [(3, 1)], ptrs := [(3, 3, 0)] })] Try.f18 iChangedVersionsFS.ps iChangedVersionsFS.rs iChangedVersionsFS.ex (a, b) = iChangedVersions a b := by kernel_rfl
theorem iChangedVersions_sound : Sound Try.prog iChangedVersionsFS :=
  sound_of_den (E := { tt := tt, fs := [iCellIndexFS] }) (.cons iCellIndex_callable iCellIndex_sound (.nil tt_ok)) mixed_ok [(3, { n := 41, its := [.b 3 0 (.ro (.list (.base .cell))), .t 5 (.own (.base .int) true true 0), .t 11 (.ro (.list (.base .cell))), .t 12 (.ro (.base .int)), .t 13 (.ro (.base .int))], boxes := [(3, 1)], ptrs := [(3, 3, 0)] })] (fn := Try.f18) (by kernel_rfl) fun x => iChangedVersions_den x.1 x.2
theorem eqIntS_callable : callable Try.prog 19 = true := by kernel_rfl
theorem eqIntS_den (a : List Int) (b : List Int) : denF { tt := tt, fs := [] } [(4, { n := 26, its := [.t 0 (.ro (.list (.base .int))), .t 1 (.ro (.list (.base .int))), .t 5 (.ro (.base .int))], boxes := [], ptrs := [] })] Try.f19 eqIntSFS.ps eqIntSFS.rs eqIntSFS.ex (a, b) = eqIntS a b := by kernel_rfl
theorem eqIntS_sound : Sound Try.prog eqIntSFS :=
  sound_of_den (E := { tt := tt, fs := [] }) (.nil tt_ok) mixed_ok [(4, { n := 26, its := [.t 0 (.ro (.list (.base .int))), .t 1 (.ro (.list (.base .int))), .t 5 (.ro (.base .int))], boxes := [], ptrs := [] })] (fn := Try.f19) (by kernel_rfl) fun x => eqIntS_den x.1 x.2
theorem eqCell_callable : callable Try.prog 124 = true := by kernel_rfl
theorem eqCell_den (a : GCell) (b : GCell) : denF { tt := tt, fs := [] } [] Try.f124 eqCellFS.ps eqCellFS.rs eqCellFS.ex (a, b) = eqCell a b := by kernel_rfl
theorem eqCell_sound : Sound Try.prog eqCellFS :=
  sound_of_den (E := { tt := tt, fs := [] }) (.nil tt_ok) mixed_ok [] (fn := Try.f124) (by kernel_rfl) fun x => eqCell_den x.1 x.2
theorem eqCellS_callable : callable Try.prog 74 = true := by kernel_rfl
theorem eqCellS_den (a : List GCell) (b : List GCell) : denF { tt := tt, fs := [eqCellFS] } [(4, { n := 27, its := [.t 0 (.ro (.list (.base .cell))), .t 1 (.ro (.list (.base .cell))), .t 5 (.ro (.base .int))], boxes := [], ptrs := [] })] Try.f74 eqCellSFS.ps eqCellSFS.rs eqCellSFS.ex (a, b) = eqCellS a b := by kernel_rfl
theorem eqCellS_sound : Sound Try.prog eqCellSFS :=
  sound_of_den (E := { tt := tt, fs := [eqCellFS] }) (.cons eqCell_callable eqCell_sound (.nil tt_ok)) mixed_ok [(4, { n := 27, its := [.t 0 (.ro (.list (.base .cell))), .t 1 (.ro (.list (.base .cell))), .t 5 (.ro (.base .int))], boxes := [], ptrs := [] })] (fn := Try.f74) (by kernel_rfl) fun x => eqCellS_den x.1 x.2
theorem eqNotebook_callable : callable Try.prog 20 = true := by kernel_rfl
theorem eqNotebook_den (a : GNotebook) (b : GNotebook) : denF { tt := tt, fs := [eqCellSFS] } [] Try.f20 eqNotebookFS.ps eqNotebookFS.rs eqNotebookFS.ex (a, b) = eqNotebook a b := by kernel_rfl
theorem eqNotebook_sound : Sound Try.prog eqNotebookFS :=
  sound_of_den (E := { tt := tt, fs := [eqCellSFS] }) (.cons eqCellS_callable eqCellS_sound (.nil tt_ok)) mixed_ok [] (fn := Try.f20) (by kernel_rfl) fun x => eqNotebook_den x.1 x.2
theorem markText_callable : callable Try.prog 103 = true := by kernel_rfl
theorem markText_den (a : Int) : denF { tt := tt, fs := [] } [(4, { n := 20, its := [.t 0 (.ro (.base .int)), .t 3 (.ro (.base .str))], boxes := [], ptrs := [] })] Try.f103 markTextFS.ps markTextFS.rs markTextFS.ex a = markText a := by kernel_rfl
theorem markText_sound : Sound Try.prog markTextFS :=
  sound_of_den (E := { tt := tt, fs := [] }) (.nil tt_ok) mixed_ok [(4, { n := 20, its := [.t 0 (.ro (.base .int)), .t 3 (.ro (.base .str))], boxes := [], ptrs := [] })] (fn := Try.f103) (by kernel_rfl) fun x => markText_den x
theorem markCellS_callable : callable Try.prog 75 = true := by kernel_rfl
theorem markCellS_den (a : List GCell) (b : Int) : denMF { tt := tt, fs := [markTextFS] } [(2, { n := 57, ty := .base .cell, si := 5, sk := 1 })] Try.f75 markCellSMS.sh a b = markCellS a b := by kernel_rfl
theorem markCellS_msound : MSound Try.prog markCellSMS :=
  msound_of_den (E := { tt := tt, fs := [markTextFS] }) (.cons markText_callable markText_sound (.nil tt_ok)) [(2, { n := 57, ty := .base .cell, si := 5, sk := 1 })] (fn := Try.f75) (by kernel_rfl) fun x n => markCellS_den x n
theorem markNotebook_callable : callable Try.prog 21 = true := by kernel_rfl
theorem markNotebook_den (a : GNotebook) (b : Int) : denMF { tt := tt, fs := [], ms := [markCellSMS] } [] Try.f21 markNotebookMS.sh a b = markNotebook a b := by kernel_rfl
theorem markNotebook_msound : MSound Try.prog markNotebookMS :=
  msound_of_den (E := { tt := tt, fs := [], ms := [markCellSMS] }) (.consM markCellS_callable markCellS_msound (.nil tt_ok)) [] (fn := Try.f21) (by kernel_rfl) fun x n => markNotebook_den x n
theorem markIntS_callable : callable Try.prog 22 = true := by kernel_rfl
theorem markIntS_den (a : List Int) (b : Int) : denMF { tt := tt, fs := [] } [(2, { n := 19, ty := .base .int, si := 5, sk := 1 })] Try.f22 markIntSMS.sh a b = markIntS a b := by kernel_rfl
theorem markIntS_msound : MSound Try.prog markIntSMS :=
  msound_of_den (E := { tt := tt, fs := [] }) (.nil tt_ok) [(2, { n := 19, ty := .base .int, si := 5, sk := 1 })] (fn := Try.f22) (by kernel_rfl) fun x n => markIntS_den x n
theorem heldIntS_callable : callable Try.prog 23 = true := by kernel_rfl
theorem heldIntS_den (a : List Int) (b : Int) : denF { tt := tt, fs := [] } [(2, { n := 21, its := [.t 0 (.ro (.list (.base .int))), .t 1 (.ro (.base .int)), .t 5 (.ro (.base .int))], boxes := [], ptrs := [] })] Try.f23 heldIntSFS.ps heldIntSFS.rs heldIntSFS.ex (a, b) = heldIntS a b := by kernel_rfl
theorem heldIntS_sound : Sound Try.prog heldIntSFS :=
  sound_of_den (E := { tt := tt, fs := [] }) (.nil tt_ok) mixed_ok [(2, { n := 21, its := [.t 0 (.ro (.list (.base .int))), .t 1 (.ro (.base .int)), .t 5 (.ro (.base .int))], boxes := [], ptrs := [] })] (fn := Try.f23) (by kernel_rfl) fun x => heldIntS_den x.1 x.2
theorem FnExactChangedVersions_callable : callable Try.prog 3 = true := by kernel_rfl
theorem FnExactChangedVersions_den (a : GNotebook) (b : GNotebook) : denF { tt := tt, fs := [szNotebookFS, sChangedVersionsFS, toNotebookFS, iChangedVersionsFS, eqIntSFS, eqNotebookFS, heldIntSFS], ms := [markNotebookMS, markIntSMS], trees := true } [] Try.f3 FnExactChangedVersionsFS.ps FnExactChangedVersionsFS.rs FnExactChangedVersionsFS.ex (a, b) = FnExactChangedVersions a b := by kernel_rfl
theorem FnExactChangedVersions_sound : Sound Try.prog FnExactChangedVersionsFS :=
  sound_of_den (E := { tt := tt, fs := [szNotebookFS, sChangedVersionsFS, toNotebookFS, iChangedVersionsFS, eqIntSFS, eqNotebookFS, heldIntSFS], ms := [markNotebookMS, markIntSMS], trees := true }) (.cons szNotebook_callable szNotebook_sound (.cons sChangedVersions_callable sChangedVersions_sound (.cons toNotebook_callable toNotebook_sound (.cons iChangedVersions_callable iChangedVersions_sound (.cons eqIntS_callable eqIntS_sound (.cons eqNotebook_callable eqNotebook_sound (.cons heldIntS_callable heldIntS_sound (.consM markNotebook_callable markNotebook_msound (.consM markIntS_callable markIntS_msound (.nil tt_ok)))))))))) mixed_ok [] (fn := Try.f3) (by kernel_rfl) fun x => FnExactChangedVersions_den x.1 x.2
theorem sL1In_callable : callable Try.prog 90 = true := by kernel_rfl
theorem sL1In_den (a : Int) (b : Int) (c : Int) : denF { tt := tt, fs := [] } [] Try.f90 sL1InFS.ps sL1InFS.rs sL1InFS.ex (a, b, c) = sL1In a b c := by kernel_rfl
theorem sL1In_sound : Sound Try.prog sL1InFS :=
  sound_of_den (E := { tt := tt, fs := [] }) (.nil tt_ok) mixed_ok [] (fn := Try.f90) (by kernel_rfl) fun x => sL1In_den x.1 x.2.1 x.2.2
theorem sIsPrintable_callable : callable Try.prog 150 = true := by kernel_rfl
theorem sIsPrintable_den (a : Str) : denF { tt := tt, fs := [] } [(2, { n := 23, its := [.t 0 (.ro (.base .str)), .t 3 (.ro (.base .int))], boxes := [], ptrs := [] })] Try.f150 sIsPrintableFS.ps sIsPrintableFS.rs sIsPrintableFS.ex a = sIsPrintable a := by kernel_rfl
theorem sIsPrintable_sound : Sound Try.prog sIsPrintableFS :=
  sound_of_den (E := { tt := tt, fs := [] }) (.nil tt_ok) mixed_ok [(2, { n := 23, its := [.t 0 (.ro (.base .str)), .t 3 (.ro (.base .int))], boxes := [], ptrs := [] })] (fn := Try.f150) (by kernel_rfl) fun x => sIsPrintable_den x
theorem sL2Shape_callable : callable Try.prog 169 = true := by kernel_rfl
theorem sL2Shape_den (a : Str) : denF { tt := tt, fs := [] } [(2, { n := 45, its := [.t 0 (.ro (.base .str)), .t 3 (.ro (.base .int))], boxes := [], ptrs := [] })] Try.f169 sL2ShapeFS.ps sL2ShapeFS.rs sL2ShapeFS.ex a = sL2Shape a := by kernel_rfl
theorem sL2Shape_sound : Sound Try.prog sL2ShapeFS :=
  sound_of_den (E := { tt := tt, fs := [] }) (.nil tt_ok) mixed_ok [(2, { n := 45, its := [.t 0 (.ro (.base .str)), .t 3 (.ro (.base .int))], boxes := [], ptrs := [] })] (fn := Try.f169) (by kernel_rfl) fun x => sL2Shape_den x
theorem sL1Has_callable : callable Try.prog 188 = true := by kernel_rfl
theorem sL1Has_den (a : List Str) (b : Str) : denF { tt := tt, fs := [] } [(2, { n := 18, its := [.t 0 (.ro (.list (.base .str))), .t 1 (.ro (.base .str)), .t 5 (.ro (.base .int))], boxes := [], ptrs := [] })] Try.f188 sL1HasFS.ps sL1HasFS.rs sL1HasFS.ex (a, b) = sL1Has a b := by kernel_rfl
theorem sL1Has_sound : Sound Try.prog sL1HasFS :=
  sound_of_den (E := { tt := tt, fs := [] }) (.nil tt_ok) mixed_ok [(2, { n := 18, its := [.t 0 (.ro (.list (.base .str))), .t 1 (.ro (.base .str)), .t 5 (.ro (.base .int))], boxes := [], ptrs := [] })] (fn := Try.f188) (by kernel_rfl) fun x => sL1Has_den x.1 x.2
theorem sL2Reserved_callable : callable Try.prog 189 = true := by kernel_rfl
theorem sL2Reserved_den : denF { tt := tt, fs := [] } [] Try.f189 sL2ReservedFS.ps sL2ReservedFS.rs sL2ReservedFS.ex () = sL2Reserved := by kernel_rfl
theorem sL2Reserved_sound : Sound Try.prog sL2ReservedFS :=
  sound_of_den (E := { tt := tt, fs := [] }) (.nil tt_ok) mixed_ok [] (fn := Try.f189) (by kernel_rfl) fun x => sL2Reserved_den 
theorem sIsReserved_callable : callable Try.prog 170 = true := by kernel_rfl
theorem sIsReserved_den (a : Str) : denF { tt := tt, fs := [sL1HasFS, sL2ReservedFS] } [] Try.f170 sIsReservedFS.ps sIsReservedFS.rs sIsReservedFS.ex a = sIsReserved a := by kernel_rfl
theorem sIsReserved_sound : Sound Try.prog sIsReservedFS :=
  sound_of_den (E := { tt := tt, fs := [sL1HasFS, sL2ReservedFS] }) (.cons sL1Has_callable sL1Has_sound (.cons sL2Reserved_callable sL2Reserved_sound (.nil tt_ok))) mixed_ok [] (fn := Try.f170) (by kernel_rfl) fun x => sIsReserved_den x
theorem sIsValidName_callable : callable Try.prog 151 = true := by kernel_rfl
theorem sIsValidName_den (a : Str) : denF { tt := tt, fs := [sL2ShapeFS, sIsReservedFS] } [] Try.f151 sIsValidNameFS.ps sIsValidNameFS.rs sIsValidNameFS.ex a = sIsValidName a := by kernel_rfl
theorem sIsValidName_sound : Sound Try.prog sIsValidNameFS :=
  sound_of_den (E := { tt := tt, fs := [sL2ShapeFS, sIsReservedFS] }) (.cons sL2Shape_callable sL2Shape_sound (.cons sIsReserved_callable sIsReserved_sound (.nil tt_ok))) mixed_ok [] (fn := Try.f151) (by kernel_rfl) fun x => sIsValidName_den x
theorem sIsValidCell_callable : callable Try.prog 125 = true := by kernel_rfl
theorem sIsValidCell_den (a : GCell) : denF { tt := tt, fs := [sL1InFS, sIsPrintableFS, sIsValidNameFS] } [] Try.f125 sIsValidCellFS.ps sIsValidCellFS.rs sIsValidCellFS.ex a = sIsValidCell a := by kernel_rfl
theorem sIsValidCell_sound : Sound Try.prog sIsValidCellFS :=
  sound_of_den (E := { tt := tt, fs := [sL1InFS, sIsPrintableFS, sIsValidNameFS] }) (.cons sL1In_callable sL1In_sound (.cons sIsPrintable_callable sIsPrintable_sound (.cons sIsValidName_callable sIsValidName_sound (.nil tt_ok)))) mixed_ok [] (fn := Try.f125) (by kernel_rfl) fun x => sIsValidCell_den x
theorem sIsValidNotebook_callable : callable Try.prog 76 = true := by kernel_rfl
theorem sIsValidNotebook_den (a : GNotebook) : denF { tt := tt, fs := [sCellIndexFS, sIsValidCellFS] } [(2, { n := 34, its := [.b 1 0 (.ro (.list (.base .cell))), .t 3 (.ro (.base .int))], boxes := [(1, 1)], ptrs := [(1, 1, 0)] })] Try.f76 sIsValidNotebookFS.ps sIsValidNotebookFS.rs sIsValidNotebookFS.ex a = sIsValidNotebook a := by kernel_rfl
theorem sIsValidNotebook_sound : Sound Try.prog sIsValidNotebookFS :=
  sound_of_den (E := { tt := tt, fs := [sCellIndexFS, sIsValidCellFS] }) (.cons sCellIndex_callable sCellIndex_sound (.cons sIsValidCell_callable sIsValidCell_sound (.nil tt_ok))) mixed_ok [(2, { n := 34, its := [.b 1 0 (.ro (.list (.base .cell))), .t 3 (.ro (.base .int))], boxes := [(1, 1)], ptrs := [(1, 1, 0)] })] (fn := Try.f76) (by kernel_rfl) fun x => sIsValidNotebook_den x
theorem sL17Copy_callable : callable Try.prog 77 = true := by kernel_rfl
theorem sL17Copy_den (a : GNotebook) : denF { tt := tt, fs := [] } [] Try.f77 sL17CopyFS.ps sL17CopyFS.rs sL17CopyFS.ex a = sL17Copy a := by kernel_rfl
theorem sL17Copy_sound : Sound Try.prog sL17CopyFS :=
  sound_of_den (E := { tt := tt, fs := [] }) (.nil tt_ok) mixed_ok [] (fn := Try.f77) (by kernel_rfl) fun x => sL17Copy_den x
end Go.Proofs.Ytiedhibpaooldaa
