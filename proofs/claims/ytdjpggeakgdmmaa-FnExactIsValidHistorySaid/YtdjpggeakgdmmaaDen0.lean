/- The functions compute their models, by gen.py. -/
import Derived.Test.YtdjpggeakgdmmaaEnvs
namespace Go.Proofs.Ytdjpggeakgdmmaa
open Go.Abs Go.Proofs
set_option maxRecDepth 100000
theorem szCell_callable : callable Try.prog 125 = true := by kernel_rfl
theorem szCell_den (a : GCell) (b : Int) : denF { tt := tt, fs := [] } [] Try.f125 szCellFS.ps szCellFS.rs szCellFS.ex (a, b) = szCell a b := by kernel_rfl
theorem szCell_sound : Sound Try.prog szCellFS :=
  sound_of_den (E := { tt := tt, fs := [] }) (.nil tt_ok) mixed_ok [] (fn := Try.f125) (by kernel_rfl) fun x => szCell_den x.1 x.2
theorem szCellS_callable : callable Try.prog 74 = true := by kernel_rfl
theorem szCellS_den (a : List GCell) (b : Int) : denF { tt := tt, fs := [szCellFS] } [(5, { n := 27, its := [.t 0 (.ro (.list (.base .cell))), .t 1 (.ro (.base .int)), .t 5 (.ro (.base .int))], boxes := [], ptrs := [] })] Try.f74 szCellSFS.ps szCellSFS.rs szCellSFS.ex (a, b) = szCellS a b := by kernel_rfl
theorem szCellS_sound : Sound Try.prog szCellSFS :=
  sound_of_den (E := { tt := tt, fs := [szCellFS] }) (.cons szCell_callable szCell_sound (.nil tt_ok)) mixed_ok [(5, { n := 27, its := [.t 0 (.ro (.list (.base .cell))), .t 1 (.ro (.base .int)), .t 5 (.ro (.base .int))], boxes := [], ptrs := [] })] (fn := Try.f74) (by kernel_rfl) fun x => szCellS_den x.1 x.2
theorem szNotebook_callable : callable Try.prog 15 = true := by kernel_rfl
theorem szNotebook_den (a : GNotebook) (b : Int) : denF { tt := tt, fs := [szCellSFS] } [] Try.f15 szNotebookFS.ps szNotebookFS.rs szNotebookFS.ex (a, b) = szNotebook a b := by kernel_rfl
theorem szNotebook_sound : Sound Try.prog szNotebookFS :=
  sound_of_den (E := { tt := tt, fs := [szCellSFS] }) (.cons szCellS_callable szCellS_sound (.nil tt_ok)) mixed_ok [] (fn := Try.f15) (by kernel_rfl) fun x => szNotebook_den x.1 x.2
theorem sCellIndex_callable : callable Try.prog 75 = true := by kernel_rfl
theorem sCellIndex_den (a : GNotebook) (b : Int) : denF { tt := tt, fs := [] } [(2, { n := 22, its := [.t 1 (.ro (.base .int)), .b 2 0 (.ro (.list (.base .cell))), .t 5 (.ro (.base .int))], boxes := [(2, 1)], ptrs := [(2, 2, 0)] })] Try.f75 sCellIndexFS.ps sCellIndexFS.rs sCellIndexFS.ex (a, b) = sCellIndex a b := by kernel_rfl
theorem sCellIndex_sound : Sound Try.prog sCellIndexFS :=
  sound_of_den (E := { tt := tt, fs := [] }) (.nil tt_ok) mixed_ok [(2, { n := 22, its := [.t 1 (.ro (.base .int)), .b 2 0 (.ro (.list (.base .cell))), .t 5 (.ro (.base .int))], boxes := [(2, 1)], ptrs := [(2, 2, 0)] })] (fn := Try.f75) (by kernel_rfl) fun x => sCellIndex_den x.1 x.2
theorem sChangedVersions_callable : callable Try.prog 16 = true := by kernel_rfl
theorem sChangedVersions_den (a : GNotebook) (b : GNotebook) : denF { tt := tt, fs := [sCellIndexFS] } [(3, { n := 51, its := [.b 2 0 (.ro (.list (.base .cell))), .b 3 0 (.ro (.list (.base .cell))), .t 5 (.own (.base .int) true true 0), .t 6 (.ro (.base .int))], boxes := [(2, 1), (3, 1)], ptrs := [(2, 2, 0), (3, 3, 0)] })] Try.f16 sChangedVersionsFS.ps sChangedVersionsFS.rs sChangedVersionsFS.ex (a, b) = sChangedVersions a b := by kernel_rfl
theorem sChangedVersions_sound : Sound Try.prog sChangedVersionsFS :=
  sound_of_den (E := { tt := tt, fs := [sCellIndexFS] }) (.cons sCellIndex_callable sCellIndex_sound (.nil tt_ok)) mixed_ok [(3, { n := 51, its := [.b 2 0 (.ro (.list (.base .cell))), .b 3 0 (.ro (.list (.base .cell))), .t 5 (.own (.base .int) true true 0), .t 6 (.ro (.base .int))], boxes := [(2, 1), (3, 1)], ptrs := [(2, 2, 0), (3, 3, 0)] })] (fn := Try.f16) (by kernel_rfl) fun x => sChangedVersions_den x.1 x.2
theorem toCell_callable : callable Try.prog 126 = true := by kernel_rfl
theorem toCell_den (a : GCell) : denF { tt := tt, fs := [] } [] Try.f126 toCellFS.ps toCellFS.rs toCellFS.ex a = toCell a := by kernel_rfl
theorem toCell_sound : Sound Try.prog toCellFS :=
  sound_of_den (E := { tt := tt, fs := [] }) (.nil tt_ok) mixed_ok [] (fn := Try.f126) (by kernel_rfl) fun x => toCell_den x
theorem toCellS_callable : callable Try.prog 76 = true := by kernel_rfl
theorem toCellS_den (a : List GCell) : denF { tt := tt, fs := [toCellFS] } [(3, { n := 23, its := [.t 0 (.ro (.list (.base .cell))), .t 3 (.own (.base .cell) true true 0), .t 4 (.ro (.base .int))], boxes := [], ptrs := [] })] Try.f76 toCellSFS.ps toCellSFS.rs toCellSFS.ex a = toCellS a := by kernel_rfl
theorem toCellS_sound : Sound Try.prog toCellSFS :=
  sound_of_den (E := { tt := tt, fs := [toCellFS] }) (.cons toCell_callable toCell_sound (.nil tt_ok)) mixed_ok [(3, { n := 23, its := [.t 0 (.ro (.list (.base .cell))), .t 3 (.own (.base .cell) true true 0), .t 4 (.ro (.base .int))], boxes := [], ptrs := [] })] (fn := Try.f76) (by kernel_rfl) fun x => toCellS_den x
theorem toNotebook_callable : callable Try.prog 17 = true := by kernel_rfl
theorem toNotebook_den (a : GNotebook) : denF { tt := tt, fs := [toCellSFS] } [] Try.f17 toNotebookFS.ps toNotebookFS.rs toNotebookFS.ex a = toNotebook a := by kernel_rfl
theorem toNotebook_sound : Sound Try.prog toNotebookFS :=
  sound_of_den (E := { tt := tt, fs := [toCellSFS] }) (.cons toCellS_callable toCellS_sound (.nil tt_ok)) mixed_ok [] (fn := Try.f17) (by kernel_rfl) fun x => toNotebook_den x
theorem iCellIndex_callable : callable Try.prog 77 = true := by kernel_rfl
theorem iCellIndex_den (a : GNotebook) (b : Int) : denF { tt := tt, fs := [] } [(2, { n := 21, its := [.t 1 (.ro (.base .int)), .t 8 (.ro (.list (.base .cell))), .t 9 (.ro (.base .int)), .t 10 (.ro (.base .int))], boxes := [], ptrs := [] })] Try.f77 iCellIndexFS.ps iCellIndexFS.rs iCellIndexFS.ex (a, b) = iCellIndex a b := by kernel_rfl
theorem iCellIndex_sound : Sound Try.prog iCellIndexFS :=
  sound_of_den (E := { tt := tt, fs := [] }) (.nil tt_ok) mixed_ok [(2, { n := 21, its := [.t 1 (.ro (.base .int)), .t 8 (.ro (.list (.base .cell))), .t 9 (.ro (.base .int)), .t 10 (.ro (.base .int))], boxes := [], ptrs := [] })] (fn := Try.f77) (by kernel_rfl) fun x => iCellIndex_den x.1 x.2
theorem iChangedVersions_callable : callable Try.prog 18 = true := by kernel_rfl
theorem iChangedVersions_den (a : GNotebook) (b : GNotebook) : denF { tt := tt, fs := [iCellIndexFS] } [(3, { n := 41, its := [.b 3 0 (.ro (.list (.base .cell))), .t 5 (.own (.base .int) true true 0), .t 11 (.ro (.list (.base .cell))), .t 12 (.ro (.base .int)), .t 13 (.ro (.base .int))], boxes := [(3, 1)], ptrs := [(3, 3, 0)] })] Try.f18 iChangedVersionsFS.ps iChangedVersionsFS.rs iChangedVersionsFS.ex (a, b) = iChangedVersions a b := by kernel_rfl
theorem iChangedVersions_sound : Sound Try.prog iChangedVersionsFS :=
  sound_of_den (E := { tt := tt, fs := [iCellIndexFS] }) (.cons iCellIndex_callable iCellIndex_sound (.nil tt_ok)) mixed_ok [(3, { n := 41, its := [.b 3 0 (.ro (.list (.base .cell))), .t 5 (.own (.base .int) true true 0), .t 11 (.ro (.list (.base .cell))), .t 12 (.ro (.base .int)), .t 13 (.ro (.base .int))], boxes := [(3, 1)], ptrs := [(3, 3, 0)] })] (fn := Try.f18) (by kernel_rfl) fun x => iChangedVersions_den x.1 x.2
theorem eqIntS_callable : callable Try.prog 19 = true := by kernel_rfl
theorem eqIntS_den (a : List Int) (b : List Int) : denF { tt := tt, fs := [] } [(4, { n := 26, its := [.t 0 (.ro (.list (.base .int))), .t 1 (.ro (.list (.base .int))), .t 5 (.ro (.base .int))], boxes := [], ptrs := [] })] Try.f19 eqIntSFS.ps eqIntSFS.rs eqIntSFS.ex (a, b) = eqIntS a b := by kernel_rfl
theorem eqIntS_sound : Sound Try.prog eqIntSFS :=
  sound_of_den (E := { tt := tt, fs := [] }) (.nil tt_ok) mixed_ok [(4, { n := 26, its := [.t 0 (.ro (.list (.base .int))), .t 1 (.ro (.list (.base .int))), .t 5 (.ro (.base .int))], boxes := [], ptrs := [] })] (fn := Try.f19) (by kernel_rfl) fun x => eqIntS_den x.1 x.2
theorem eqCell_callable : callable Try.prog 127 = true := by kernel_rfl
theorem eqCell_den (a : GCell) (b : GCell) : denF { tt := tt, fs := [] } [] Try.f127 eqCellFS.ps eqCellFS.rs eqCellFS.ex (a, b) = eqCell a b := by kernel_rfl
theorem eqCell_sound : Sound Try.prog eqCellFS :=
  sound_of_den (E := { tt := tt, fs := [] }) (.nil tt_ok) mixed_ok [] (fn := Try.f127) (by kernel_rfl) fun x => eqCell_den x.1 x.2
theorem eqCellS_callable : callable Try.prog 78 = true := by kernel_rfl
theorem eqCellS_den (a : List GCell) (b : List GCell) : denF { tt := tt, fs := [eqCellFS] } [(4, { n := 27, its := [.t 0 (.ro (.list (.base .cell))), .t 1 (.ro (.list (.base .cell))), .t 5 (.ro (.base .int))], boxes := [], ptrs := [] })] Try.f78 eqCellSFS.ps eqCellSFS.rs eqCellSFS.ex (a, b) = eqCellS a b := by kernel_rfl
theorem eqCellS_sound : Sound Try.prog eqCellSFS :=
  sound_of_den (E := { tt := tt, fs := [eqCellFS] }) (.cons eqCell_callable eqCell_sound (.nil tt_ok)) mixed_ok [(4, { n := 27, its := [.t 0 (.ro (.list (.base .cell))), .t 1 (.ro (.list (.base .cell))), .t 5 (.ro (.base .int))], boxes := [], ptrs := [] })] (fn := Try.f78) (by kernel_rfl) fun x => eqCellS_den x.1 x.2
theorem eqNotebook_callable : callable Try.prog 20 = true := by kernel_rfl
theorem eqNotebook_den (a : GNotebook) (b : GNotebook) : denF { tt := tt, fs := [eqCellSFS] } [] Try.f20 eqNotebookFS.ps eqNotebookFS.rs eqNotebookFS.ex (a, b) = eqNotebook a b := by kernel_rfl
theorem eqNotebook_sound : Sound Try.prog eqNotebookFS :=
  sound_of_den (E := { tt := tt, fs := [eqCellSFS] }) (.cons eqCellS_callable eqCellS_sound (.nil tt_ok)) mixed_ok [] (fn := Try.f20) (by kernel_rfl) fun x => eqNotebook_den x.1 x.2
theorem heldIntS_callable : callable Try.prog 23 = true := by kernel_rfl
theorem heldIntS_den (a : List Int) (b : Int) : denF { tt := tt, fs := [] } [(2, { n := 21, its := [.t 0 (.ro (.list (.base .int))), .t 1 (.ro (.base .int)), .t 5 (.ro (.base .int))], boxes := [], ptrs := [] })] Try.f23 heldIntSFS.ps heldIntSFS.rs heldIntSFS.ex (a, b) = heldIntS a b := by kernel_rfl
theorem heldIntS_sound : Sound Try.prog heldIntSFS :=
  sound_of_den (E := { tt := tt, fs := [] }) (.nil tt_ok) mixed_ok [(2, { n := 21, its := [.t 0 (.ro (.list (.base .int))), .t 1 (.ro (.base .int)), .t 5 (.ro (.base .int))], boxes := [], ptrs := [] })] (fn := Try.f23) (by kernel_rfl) fun x => heldIntS_den x.1 x.2
theorem big_callable : callable Try.prog 24 = true := by kernel_rfl
theorem big_den (a : List Int) : denF { tt := tt, fs := [] } [] Try.f24 bigFS.ps bigFS.rs bigFS.ex a = big a := by kernel_rfl
theorem big_sound : Sound Try.prog bigFS :=
  sound_of_den (E := { tt := tt, fs := [] }) (.nil tt_ok) mixed_ok [] (fn := Try.f24) (by kernel_rfl) fun x => big_den x
theorem sNumberValue_callable : callable Try.prog 130 = true := by kernel_rfl
theorem sNumberValue_den (a : Int) : denF { tt := tt, fs := [] } [] Try.f130 sNumberValueFS.ps sNumberValueFS.rs sNumberValueFS.ex a = sNumberValue a := by kernel_rfl
theorem sNumberValue_sound : Sound Try.prog sNumberValueFS :=
  sound_of_den (E := { tt := tt, fs := [] }) (.nil tt_ok) mixed_ok [] (fn := Try.f130) (by kernel_rfl) fun x => sNumberValue_den x
theorem iSameRead_callable : callable Try.prog 85 = true := by kernel_rfl
theorem iSameRead_den (a : GRead) (b : GRead) : denF { tt := tt, fs := [] } [] Try.f85 iSameReadFS.ps iSameReadFS.rs iSameReadFS.ex (a, b) = iSameRead a b := by kernel_rfl
theorem iSameRead_sound : Sound Try.prog iSameReadFS :=
  sound_of_den (E := { tt := tt, fs := [] }) (.nil tt_ok) mixed_ok [] (fn := Try.f85) (by kernel_rfl) fun x => iSameRead_den x.1 x.2
theorem iCopyRow_callable : callable Try.prog 132 = true := by kernel_rfl
theorem iCopyRow_den (a : GRow) : denF { tt := tt, fs := [] } [] Try.f132 iCopyRowFS.ps iCopyRowFS.rs iCopyRowFS.ex a = iCopyRow a := by kernel_rfl
theorem iCopyRow_sound : Sound Try.prog iCopyRowFS :=
  sound_of_den (E := { tt := tt, fs := [] }) (.nil tt_ok) mixed_ok [] (fn := Try.f132) (by kernel_rfl) fun x => iCopyRow_den x
theorem sL3Texts_callable : callable Try.prog 134 = true := by kernel_rfl
theorem sL3Texts_den (a : List Str) (b : List Str) : denF { tt := tt, fs := [] } [(4, { n := 26, its := [.t 0 (.ro (.list (.base .str))), .t 1 (.ro (.list (.base .str))), .t 5 (.ro (.base .int))], boxes := [], ptrs := [] })] Try.f134 sL3TextsFS.ps sL3TextsFS.rs sL3TextsFS.ex (a, b) = sL3Texts a b := by kernel_rfl
theorem sL3Texts_sound : Sound Try.prog sL3TextsFS :=
  sound_of_den (E := { tt := tt, fs := [] }) (.nil tt_ok) mixed_ok [(4, { n := 26, its := [.t 0 (.ro (.list (.base .str))), .t 1 (.ro (.list (.base .str))), .t 5 (.ro (.base .int))], boxes := [], ptrs := [] })] (fn := Try.f134) (by kernel_rfl) fun x => sL3Texts_den x.1 x.2
theorem sL1Ints_callable : callable Try.prog 135 = true := by kernel_rfl
theorem sL1Ints_den (a : List Int) (b : List Int) : denF { tt := tt, fs := [] } [(4, { n := 26, its := [.t 0 (.ro (.list (.base .int))), .t 1 (.ro (.list (.base .int))), .t 5 (.ro (.base .int))], boxes := [], ptrs := [] })] Try.f135 sL1IntsFS.ps sL1IntsFS.rs sL1IntsFS.ex (a, b) = sL1Ints a b := by kernel_rfl
theorem sL1Ints_sound : Sound Try.prog sL1IntsFS :=
  sound_of_den (E := { tt := tt, fs := [] }) (.nil tt_ok) mixed_ok [(4, { n := 26, its := [.t 0 (.ro (.list (.base .int))), .t 1 (.ro (.list (.base .int))), .t 5 (.ro (.base .int))], boxes := [], ptrs := [] })] (fn := Try.f135) (by kernel_rfl) fun x => sL1Ints_den x.1 x.2
theorem sL16Same_callable : callable Try.prog 87 = true := by kernel_rfl
theorem sL16Same_den (a : GRead) (b : GRead) : denF { tt := tt, fs := [] } [] Try.f87 sL16SameFS.ps sL16SameFS.rs sL16SameFS.ex (a, b) = sL16Same a b := by kernel_rfl
theorem sL16Same_sound : Sound Try.prog sL16SameFS :=
  sound_of_den (E := { tt := tt, fs := [] }) (.nil tt_ok) mixed_ok [] (fn := Try.f87) (by kernel_rfl) fun x => sL16Same_den x.1 x.2
theorem sL3Row_callable : callable Try.prog 133 = true := by kernel_rfl
theorem sL3Row_den (a : GRow) : denF { tt := tt, fs := [] } [] Try.f133 sL3RowFS.ps sL3RowFS.rs sL3RowFS.ex a = sL3Row a := by kernel_rfl
theorem sL3Row_sound : Sound Try.prog sL3RowFS :=
  sound_of_den (E := { tt := tt, fs := [] }) (.nil tt_ok) mixed_ok [] (fn := Try.f133) (by kernel_rfl) fun x => sL3Row_den x
theorem sL26At_callable : callable Try.prog 93 = true := by kernel_rfl
theorem sL26At_den (a : List GTape) (b : Int) (c : Int) : denF { tt := tt, fs := [] } [(2, { n := 31, its := [.t 0 (.ro (.list (.base .tape))), .t 1 (.ro (.base .int)), .t 2 (.ro (.base .int)), .t 7 (.ro (.base .int))], boxes := [], ptrs := [] })] Try.f93 sL26AtFS.ps sL26AtFS.rs sL26AtFS.ex (a, b, c) = sL26At a b c := by kernel_rfl
theorem sL26At_sound : Sound Try.prog sL26AtFS :=
  sound_of_den (E := { tt := tt, fs := [] }) (.nil tt_ok) mixed_ok [(2, { n := 31, its := [.t 0 (.ro (.list (.base .tape))), .t 1 (.ro (.base .int)), .t 2 (.ro (.base .int)), .t 7 (.ro (.base .int))], boxes := [], ptrs := [] })] (fn := Try.f93) (by kernel_rfl) fun x => sL26At_den x.1 x.2.1 x.2.2
theorem sL26Before_callable : callable Try.prog 98 = true := by kernel_rfl
theorem sL26Before_den (a : GTape) (b : GTape) : denF { tt := tt, fs := [] } [] Try.f98 sL26BeforeFS.ps sL26BeforeFS.rs sL26BeforeFS.ex (a, b) = sL26Before a b := by kernel_rfl
theorem sL26Before_sound : Sound Try.prog sL26BeforeFS :=
  sound_of_den (E := { tt := tt, fs := [] }) (.nil tt_ok) mixed_ok [] (fn := Try.f98) (by kernel_rfl) fun x => sL26Before_den x.1 x.2
end Go.Proofs.Ytdjpggeakgdmmaa
