/- The functions compute their models, by gen.py. -/
import Derived.Test.YtiedhibpaooldaaDen0
namespace Go.Proofs.Ytiedhibpaooldaa
open Go.Abs Go.Proofs
set_option maxRecDepth 100000
theorem sNewHistory_callable : callable Try.prog 24 = true := by kernel_rfl
theorem sNewHistory_den (a : GNotebook) : denF { tt := tt, fs := [sIsValidNotebookFS, sL17CopyFS] } [] Try.f24 sNewHistoryFS.ps sNewHistoryFS.rs sNewHistoryFS.ex a = sNewHistory a := by kernel_rfl
theorem sNewHistory_sound : Sound Try.prog sNewHistoryFS :=
  sound_of_den (E := { tt := tt, fs := [sIsValidNotebookFS, sL17CopyFS] }) (.cons sIsValidNotebook_callable sIsValidNotebook_sound (.cons sL17Copy_callable sL17Copy_sound (.nil tt_ok))) mixed_ok [] (fn := Try.f24) (by kernel_rfl) fun x => sNewHistory_den x
theorem iWithin_callable : callable Try.prog 100 = true := by kernel_rfl
theorem iWithin_den (a : Int) (b : Int) (c : Int) : denF { tt := tt, fs := [] } [] Try.f100 iWithinFS.ps iWithinFS.rs iWithinFS.ex (a, b, c) = iWithin a b c := by kernel_rfl
theorem iWithin_sound : Sound Try.prog iWithinFS :=
  sound_of_den (E := { tt := tt, fs := [] }) (.nil tt_ok) mixed_ok [] (fn := Try.f100) (by kernel_rfl) fun x => iWithin_den x.1 x.2.1 x.2.2
theorem iIsPrintable_callable : callable Try.prog 152 = true := by kernel_rfl
theorem iIsPrintable_den (a : Str) : denF { tt := tt, fs := [] } [(2, { n := 23, its := [.t 0 (.ro (.base .str)), .t 3 (.ro (.base .int))], boxes := [], ptrs := [] })] Try.f152 iIsPrintableFS.ps iIsPrintableFS.rs iIsPrintableFS.ex a = iIsPrintable a := by kernel_rfl
theorem iIsPrintable_sound : Sound Try.prog iIsPrintableFS :=
  sound_of_den (E := { tt := tt, fs := [] }) (.nil tt_ok) mixed_ok [(2, { n := 23, its := [.t 0 (.ro (.base .str)), .t 3 (.ro (.base .int))], boxes := [], ptrs := [] })] (fn := Try.f152) (by kernel_rfl) fun x => iIsPrintable_den x
theorem iIsWord_callable : callable Try.prog 171 = true := by kernel_rfl
theorem iIsWord_den (a : Str) : denF { tt := tt, fs := [iWithinFS] } [(2, { n := 42, its := [.t 0 (.ro (.base .str)), .t 3 (.ro (.base .int))], boxes := [], ptrs := [] })] Try.f171 iIsWordFS.ps iIsWordFS.rs iIsWordFS.ex a = iIsWord a := by kernel_rfl
theorem iIsWord_sound : Sound Try.prog iIsWordFS :=
  sound_of_den (E := { tt := tt, fs := [iWithinFS] }) (.cons iWithin_callable iWithin_sound (.nil tt_ok)) mixed_ok [(2, { n := 42, its := [.t 0 (.ro (.base .str)), .t 3 (.ro (.base .int))], boxes := [], ptrs := [] })] (fn := Try.f171) (by kernel_rfl) fun x => iIsWord_den x
theorem iArgumentCount_callable : callable Try.prog 190 = true := by kernel_rfl
theorem iArgumentCount_den (a : Str) : denF { tt := tt, fs := [] } [] Try.f190 iArgumentCountFS.ps iArgumentCountFS.rs iArgumentCountFS.ex a = iArgumentCount a := by kernel_rfl
theorem iArgumentCount_sound : Sound Try.prog iArgumentCountFS :=
  sound_of_den (E := { tt := tt, fs := [] }) (.nil tt_ok) mixed_ok [] (fn := Try.f190) (by kernel_rfl) fun x => iArgumentCount_den x
theorem iIsReserved_callable : callable Try.prog 172 = true := by kernel_rfl
theorem iIsReserved_den (a : Str) : denF { tt := tt, fs := [iArgumentCountFS] } [] Try.f172 iIsReservedFS.ps iIsReservedFS.rs iIsReservedFS.ex a = iIsReserved a := by kernel_rfl
theorem iIsReserved_sound : Sound Try.prog iIsReservedFS :=
  sound_of_den (E := { tt := tt, fs := [iArgumentCountFS] }) (.cons iArgumentCount_callable iArgumentCount_sound (.nil tt_ok)) mixed_ok [] (fn := Try.f172) (by kernel_rfl) fun x => iIsReserved_den x
theorem iIsValidName_callable : callable Try.prog 153 = true := by kernel_rfl
theorem iIsValidName_den (a : Str) : denF { tt := tt, fs := [iIsWordFS, iIsReservedFS] } [] Try.f153 iIsValidNameFS.ps iIsValidNameFS.rs iIsValidNameFS.ex a = iIsValidName a := by kernel_rfl
theorem iIsValidName_sound : Sound Try.prog iIsValidNameFS :=
  sound_of_den (E := { tt := tt, fs := [iIsWordFS, iIsReservedFS] }) (.cons iIsWord_callable iIsWord_sound (.cons iIsReserved_callable iIsReserved_sound (.nil tt_ok))) mixed_ok [] (fn := Try.f153) (by kernel_rfl) fun x => iIsValidName_den x
theorem iIsValidCell_callable : callable Try.prog 126 = true := by kernel_rfl
theorem iIsValidCell_den (a : GCell) : denF { tt := tt, fs := [iWithinFS, iIsPrintableFS, iIsValidNameFS] } [] Try.f126 iIsValidCellFS.ps iIsValidCellFS.rs iIsValidCellFS.ex a = iIsValidCell a := by kernel_rfl
theorem iIsValidCell_sound : Sound Try.prog iIsValidCellFS :=
  sound_of_den (E := { tt := tt, fs := [iWithinFS, iIsPrintableFS, iIsValidNameFS] }) (.cons iWithin_callable iWithin_sound (.cons iIsPrintable_callable iIsPrintable_sound (.cons iIsValidName_callable iIsValidName_sound (.nil tt_ok)))) mixed_ok [] (fn := Try.f126) (by kernel_rfl) fun x => iIsValidCell_den x
theorem iIsValidNotebook_callable : callable Try.prog 78 = true := by kernel_rfl
theorem iIsValidNotebook_den (a : GNotebook) : denF { tt := tt, fs := [iCellIndexFS, iIsValidCellFS] } [(2, { n := 29, its := [.b 1 0 (.ro (.list (.base .cell))), .t 6 (.ro (.list (.base .cell))), .t 7 (.ro (.base .int)), .t 8 (.ro (.base .int))], boxes := [(1, 1)], ptrs := [(1, 1, 0)] })] Try.f78 iIsValidNotebookFS.ps iIsValidNotebookFS.rs iIsValidNotebookFS.ex a = iIsValidNotebook a := by kernel_rfl
theorem iIsValidNotebook_sound : Sound Try.prog iIsValidNotebookFS :=
  sound_of_den (E := { tt := tt, fs := [iCellIndexFS, iIsValidCellFS] }) (.cons iCellIndex_callable iCellIndex_sound (.cons iIsValidCell_callable iIsValidCell_sound (.nil tt_ok))) mixed_ok [(2, { n := 29, its := [.b 1 0 (.ro (.list (.base .cell))), .t 6 (.ro (.list (.base .cell))), .t 7 (.ro (.base .int)), .t 8 (.ro (.base .int))], boxes := [(1, 1)], ptrs := [(1, 1, 0)] })] (fn := Try.f78) (by kernel_rfl) fun x => iIsValidNotebook_den x
theorem iCopyNotebook_callable : callable Try.prog 79 = true := by kernel_rfl
theorem iCopyNotebook_den (a : GNotebook) : denF { tt := tt, fs := [] } [] Try.f79 iCopyNotebookFS.ps iCopyNotebookFS.rs iCopyNotebookFS.ex a = iCopyNotebook a := by kernel_rfl
theorem iCopyNotebook_sound : Sound Try.prog iCopyNotebookFS :=
  sound_of_den (E := { tt := tt, fs := [] }) (.nil tt_ok) mixed_ok [] (fn := Try.f79) (by kernel_rfl) fun x => iCopyNotebook_den x
theorem iNewHistory_callable : callable Try.prog 25 = true := by kernel_rfl
theorem iNewHistory_den (a : GNotebook) : denF { tt := tt, fs := [iIsValidNotebookFS, iCopyNotebookFS] } [] Try.f25 iNewHistoryFS.ps iNewHistoryFS.rs iNewHistoryFS.ex a = iNewHistory a := by kernel_rfl
theorem iNewHistory_sound : Sound Try.prog iNewHistoryFS :=
  sound_of_den (E := { tt := tt, fs := [iIsValidNotebookFS, iCopyNotebookFS] }) (.cons iIsValidNotebook_callable iIsValidNotebook_sound (.cons iCopyNotebook_callable iCopyNotebook_sound (.nil tt_ok))) mixed_ok [] (fn := Try.f25) (by kernel_rfl) fun x => iNewHistory_den x
theorem eqEdit_callable : callable Try.prog 87 = true := by kernel_rfl
theorem eqEdit_den (a : GEdit) (b : GEdit) : denF { tt := tt, fs := [eqCellFS] } [] Try.f87 eqEditFS.ps eqEditFS.rs eqEditFS.ex (a, b) = eqEdit a b := by kernel_rfl
theorem eqEdit_sound : Sound Try.prog eqEditFS :=
  sound_of_den (E := { tt := tt, fs := [eqCellFS] }) (.cons eqCell_callable eqCell_sound (.nil tt_ok)) mixed_ok [] (fn := Try.f87) (by kernel_rfl) fun x => eqEdit_den x.1 x.2
theorem eqEditS_callable : callable Try.prog 33 = true := by kernel_rfl
theorem eqEditS_den (a : List GEdit) (b : List GEdit) : denF { tt := tt, fs := [eqEditFS] } [(4, { n := 27, its := [.t 0 (.ro (.list (.base .edit))), .t 1 (.ro (.list (.base .edit))), .t 5 (.ro (.base .int))], boxes := [], ptrs := [] })] Try.f33 eqEditSFS.ps eqEditSFS.rs eqEditSFS.ex (a, b) = eqEditS a b := by kernel_rfl
theorem eqEditS_sound : Sound Try.prog eqEditSFS :=
  sound_of_den (E := { tt := tt, fs := [eqEditFS] }) (.cons eqEdit_callable eqEdit_sound (.nil tt_ok)) mixed_ok [(4, { n := 27, its := [.t 0 (.ro (.list (.base .edit))), .t 1 (.ro (.list (.base .edit))), .t 5 (.ro (.base .int))], boxes := [], ptrs := [] })] (fn := Try.f33) (by kernel_rfl) fun x => eqEditS_den x.1 x.2
theorem eqNode_callable : callable Try.prog 127 = true := by kernel_rfl
theorem eqNode_den (a : GNode) (b : GNode) : denF { tt := tt, fs := [eqEditSFS] } [] Try.f127 eqNodeFS.ps eqNodeFS.rs eqNodeFS.ex (a, b) = eqNode a b := by kernel_rfl
theorem eqNode_sound : Sound Try.prog eqNodeFS :=
  sound_of_den (E := { tt := tt, fs := [eqEditSFS] }) (.cons eqEditS_callable eqEditS_sound (.nil tt_ok)) mixed_ok [] (fn := Try.f127) (by kernel_rfl) fun x => eqNode_den x.1 x.2
theorem eqNodeS_callable : callable Try.prog 80 = true := by kernel_rfl
theorem eqNodeS_den (a : List GNode) (b : List GNode) : denF { tt := tt, fs := [eqNodeFS] } [(4, { n := 27, its := [.t 0 (.ro (.list (.base .node))), .t 1 (.ro (.list (.base .node))), .t 5 (.ro (.base .int))], boxes := [], ptrs := [] })] Try.f80 eqNodeSFS.ps eqNodeSFS.rs eqNodeSFS.ex (a, b) = eqNodeS a b := by kernel_rfl
theorem eqNodeS_sound : Sound Try.prog eqNodeSFS :=
  sound_of_den (E := { tt := tt, fs := [eqNodeFS] }) (.cons eqNode_callable eqNode_sound (.nil tt_ok)) mixed_ok [(4, { n := 27, its := [.t 0 (.ro (.list (.base .node))), .t 1 (.ro (.list (.base .node))), .t 5 (.ro (.base .int))], boxes := [], ptrs := [] })] (fn := Try.f80) (by kernel_rfl) fun x => eqNodeS_den x.1 x.2
theorem eqHistory_callable : callable Try.prog 26 = true := by kernel_rfl
theorem eqHistory_den (a : GHistory) (b : GHistory) : denF { tt := tt, fs := [eqNotebookFS, eqNodeSFS] } [] Try.f26 eqHistoryFS.ps eqHistoryFS.rs eqHistoryFS.ex (a, b) = eqHistory a b := by kernel_rfl
theorem eqHistory_sound : Sound Try.prog eqHistoryFS :=
  sound_of_den (E := { tt := tt, fs := [eqNotebookFS, eqNodeSFS] }) (.cons eqNotebook_callable eqNotebook_sound (.cons eqNodeS_callable eqNodeS_sound (.nil tt_ok))) mixed_ok [] (fn := Try.f26) (by kernel_rfl) fun x => eqHistory_den x.1 x.2
theorem markEditS_callable : callable Try.prog 48 = true := by kernel_rfl
theorem markEditS_den (a : List GEdit) (b : Int) : denMF { tt := tt, fs := [markTextFS] } [(2, { n := 77, ty := .base .edit, si := 5, sk := 1 })] Try.f48 markEditSMS.sh a b = markEditS a b := by kernel_rfl
theorem markEditS_msound : MSound Try.prog markEditSMS :=
  msound_of_den (E := { tt := tt, fs := [markTextFS] }) (.cons markText_callable markText_sound (.nil tt_ok)) [(2, { n := 77, ty := .base .edit, si := 5, sk := 1 })] (fn := Try.f48) (by kernel_rfl) fun x n => markEditS_den x n
theorem markNodeS_callable : callable Try.prog 81 = true := by kernel_rfl
theorem markNodeS_den (a : List GNode) (b : Int) : denMF { tt := tt, fs := [], ms := [markEditSMS] } [(2, { n := 34, ty := .base .node, si := 5, sk := 1 })] Try.f81 markNodeSMS.sh a b = markNodeS a b := by kernel_rfl
theorem markNodeS_msound : MSound Try.prog markNodeSMS :=
  msound_of_den (E := { tt := tt, fs := [], ms := [markEditSMS] }) (.consM markEditS_callable markEditS_msound (.nil tt_ok)) [(2, { n := 34, ty := .base .node, si := 5, sk := 1 })] (fn := Try.f81) (by kernel_rfl) fun x n => markNodeS_den x n
theorem markHistory_callable : callable Try.prog 27 = true := by kernel_rfl
theorem markHistory_den (a : GHistory) (b : Int) : denMF { tt := tt, fs := [], ms := [markNotebookMS, markNodeSMS] } [] Try.f27 markHistoryMS.sh a b = markHistory a b := by kernel_rfl
theorem markHistory_msound : MSound Try.prog markHistoryMS :=
  msound_of_den (E := { tt := tt, fs := [], ms := [markNotebookMS, markNodeSMS] }) (.consM markNotebook_callable markNotebook_msound (.consM markNodeS_callable markNodeS_msound (.nil tt_ok))) [] (fn := Try.f27) (by kernel_rfl) fun x n => markHistory_den x n
theorem heldCellS_callable : callable Try.prog 104 = true := by kernel_rfl
theorem heldCellS_den (a : List GCell) (b : Int) : denF { tt := tt, fs := [markTextFS] } [(2, { n := 69, its := [.t 0 (.ro (.list (.base .cell))), .t 1 (.ro (.base .int)), .t 5 (.ro (.base .int))], boxes := [], ptrs := [] })] Try.f104 heldCellSFS.ps heldCellSFS.rs heldCellSFS.ex (a, b) = heldCellS a b := by kernel_rfl
theorem heldCellS_sound : Sound Try.prog heldCellSFS :=
  sound_of_den (E := { tt := tt, fs := [markTextFS] }) (.cons markText_callable markText_sound (.nil tt_ok)) mixed_ok [(2, { n := 69, its := [.t 0 (.ro (.list (.base .cell))), .t 1 (.ro (.base .int)), .t 5 (.ro (.base .int))], boxes := [], ptrs := [] })] (fn := Try.f104) (by kernel_rfl) fun x => heldCellS_den x.1 x.2
theorem heldNotebook_callable : callable Try.prog 49 = true := by kernel_rfl
theorem heldNotebook_den (a : GNotebook) (b : Int) : denF { tt := tt, fs := [heldCellSFS] } [] Try.f49 heldNotebookFS.ps heldNotebookFS.rs heldNotebookFS.ex (a, b) = heldNotebook a b := by kernel_rfl
theorem heldNotebook_sound : Sound Try.prog heldNotebookFS :=
  sound_of_den (E := { tt := tt, fs := [heldCellSFS] }) (.cons heldCellS_callable heldCellS_sound (.nil tt_ok)) mixed_ok [] (fn := Try.f49) (by kernel_rfl) fun x => heldNotebook_den x.1 x.2
theorem heldEditS_callable : callable Try.prog 128 = true := by kernel_rfl
theorem heldEditS_den (a : List GEdit) (b : Int) : denF { tt := tt, fs := [markTextFS] } [(2, { n := 93, its := [.t 0 (.ro (.list (.base .edit))), .t 1 (.ro (.base .int)), .t 5 (.ro (.base .int))], boxes := [], ptrs := [] })] Try.f128 heldEditSFS.ps heldEditSFS.rs heldEditSFS.ex (a, b) = heldEditS a b := by kernel_rfl
theorem heldEditS_sound : Sound Try.prog heldEditSFS :=
  sound_of_den (E := { tt := tt, fs := [markTextFS] }) (.cons markText_callable markText_sound (.nil tt_ok)) mixed_ok [(2, { n := 93, its := [.t 0 (.ro (.list (.base .edit))), .t 1 (.ro (.base .int)), .t 5 (.ro (.base .int))], boxes := [], ptrs := [] })] (fn := Try.f128) (by kernel_rfl) fun x => heldEditS_den x.1 x.2
theorem heldNodeS_callable : callable Try.prog 82 = true := by kernel_rfl
theorem heldNodeS_den (a : List GNode) (b : Int) : denF { tt := tt, fs := [heldEditSFS] } [(2, { n := 40, its := [.t 0 (.ro (.list (.base .node))), .t 1 (.ro (.base .int)), .t 5 (.ro (.base .int))], boxes := [], ptrs := [] })] Try.f82 heldNodeSFS.ps heldNodeSFS.rs heldNodeSFS.ex (a, b) = heldNodeS a b := by kernel_rfl
theorem heldNodeS_sound : Sound Try.prog heldNodeSFS :=
  sound_of_den (E := { tt := tt, fs := [heldEditSFS] }) (.cons heldEditS_callable heldEditS_sound (.nil tt_ok)) mixed_ok [(2, { n := 40, its := [.t 0 (.ro (.list (.base .node))), .t 1 (.ro (.base .int)), .t 5 (.ro (.base .int))], boxes := [], ptrs := [] })] (fn := Try.f82) (by kernel_rfl) fun x => heldNodeS_den x.1 x.2
theorem heldHistory_callable : callable Try.prog 28 = true := by kernel_rfl
theorem heldHistory_den (a : GHistory) (b : Int) : denF { tt := tt, fs := [heldNotebookFS, heldNodeSFS] } [] Try.f28 heldHistoryFS.ps heldHistoryFS.rs heldHistoryFS.ex (a, b) = heldHistory a b := by kernel_rfl
theorem heldHistory_sound : Sound Try.prog heldHistoryFS :=
  sound_of_den (E := { tt := tt, fs := [heldNotebookFS, heldNodeSFS] }) (.cons heldNotebook_callable heldNotebook_sound (.cons heldNodeS_callable heldNodeS_sound (.nil tt_ok))) mixed_ok [] (fn := Try.f28) (by kernel_rfl) fun x => heldHistory_den x.1 x.2
theorem FnExactNewHistory_callable : callable Try.prog 4 = true := by kernel_rfl
theorem FnExactNewHistory_den (a : GNotebook) : denF { tt := tt, fs := [szNotebookFS, toNotebookFS, eqNotebookFS, sNewHistoryFS, iNewHistoryFS, eqHistoryFS, heldHistoryFS], ms := [markNotebookMS, markHistoryMS], trees := true } [] Try.f4 FnExactNewHistoryFS.ps FnExactNewHistoryFS.rs FnExactNewHistoryFS.ex a = FnExactNewHistory a := by kernel_rfl
theorem FnExactNewHistory_sound : Sound Try.prog FnExactNewHistoryFS :=
  sound_of_den (E := { tt := tt, fs := [szNotebookFS, toNotebookFS, eqNotebookFS, sNewHistoryFS, iNewHistoryFS, eqHistoryFS, heldHistoryFS], ms := [markNotebookMS, markHistoryMS], trees := true }) (.cons szNotebook_callable szNotebook_sound (.cons toNotebook_callable toNotebook_sound (.cons eqNotebook_callable eqNotebook_sound (.cons sNewHistory_callable sNewHistory_sound (.cons iNewHistory_callable iNewHistory_sound (.cons eqHistory_callable eqHistory_sound (.cons heldHistory_callable heldHistory_sound (.consM markNotebook_callable markNotebook_msound (.consM markHistory_callable markHistory_msound (.nil tt_ok)))))))))) mixed_ok [] (fn := Try.f4) (by kernel_rfl) fun x => FnExactNewHistory_den x
theorem szEdit_callable : callable Try.prog 83 = true := by kernel_rfl
theorem szEdit_den (a : GEdit) (b : Int) : denF { tt := tt, fs := [szCellFS] } [] Try.f83 szEditFS.ps szEditFS.rs szEditFS.ex (a, b) = szEdit a b := by kernel_rfl
theorem szEdit_sound : Sound Try.prog szEditFS :=
  sound_of_den (E := { tt := tt, fs := [szCellFS] }) (.cons szCell_callable szCell_sound (.nil tt_ok)) mixed_ok [] (fn := Try.f83) (by kernel_rfl) fun x => szEdit_den x.1 x.2
theorem szEditS_callable : callable Try.prog 29 = true := by kernel_rfl
theorem szEditS_den (a : List GEdit) (b : Int) : denF { tt := tt, fs := [szEditFS] } [(5, { n := 27, its := [.t 0 (.ro (.list (.base .edit))), .t 1 (.ro (.base .int)), .t 5 (.ro (.base .int))], boxes := [], ptrs := [] })] Try.f29 szEditSFS.ps szEditSFS.rs szEditSFS.ex (a, b) = szEditS a b := by kernel_rfl
theorem szEditS_sound : Sound Try.prog szEditSFS :=
  sound_of_den (E := { tt := tt, fs := [szEditFS] }) (.cons szEdit_callable szEdit_sound (.nil tt_ok)) mixed_ok [(5, { n := 27, its := [.t 0 (.ro (.list (.base .edit))), .t 1 (.ro (.base .int)), .t 5 (.ro (.base .int))], boxes := [], ptrs := [] })] (fn := Try.f29) (by kernel_rfl) fun x => szEditS_den x.1 x.2
theorem sL1Max_callable : callable Try.prog 157 = true := by kernel_rfl
theorem sL1Max_den (a : Int) (b : Int) : denF { tt := tt, fs := [] } [] Try.f157 sL1MaxFS.ps sL1MaxFS.rs sL1MaxFS.ex (a, b) = sL1Max a b := by kernel_rfl
theorem sL1Max_sound : Sound Try.prog sL1MaxFS :=
  sound_of_den (E := { tt := tt, fs := [] }) (.nil tt_ok) mixed_ok [] (fn := Try.f157) (by kernel_rfl) fun x => sL1Max_den x.1 x.2
theorem sL1Min_callable : callable Try.prog 158 = true := by kernel_rfl
theorem sL1Min_den (a : Int) (b : Int) : denF { tt := tt, fs := [] } [] Try.f158 sL1MinFS.ps sL1MinFS.rs sL1MinFS.ex (a, b) = sL1Min a b := by kernel_rfl
theorem sL1Min_sound : Sound Try.prog sL1MinFS :=
  sound_of_den (E := { tt := tt, fs := [] }) (.nil tt_ok) mixed_ok [] (fn := Try.f158) (by kernel_rfl) fun x => sL1Min_den x.1 x.2
theorem sL20Put_callable : callable Try.prog 135 = true := by kernel_rfl
theorem sL20Put_den (a : List GCell) (b : Int) (c : GCell) : denF { tt := tt, fs := [sL1MaxFS, sL1MinFS] } [] Try.f135 sL20PutFS.ps sL20PutFS.rs sL20PutFS.ex (a, b, c) = sL20Put a b c := by kernel_rfl
theorem sL20Put_sound : Sound Try.prog sL20PutFS :=
  sound_of_den (E := { tt := tt, fs := [sL1MaxFS, sL1MinFS] }) (.cons sL1Max_callable sL1Max_sound (.cons sL1Min_callable sL1Min_sound (.nil tt_ok))) mixed_ok [] (fn := Try.f135) (by kernel_rfl) fun x => sL20Put_den x.1 x.2.1 x.2.2
end Go.Proofs.Ytiedhibpaooldaa
