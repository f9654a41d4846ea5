/- The functions compute their models, by gen.py. -/
import Derived.Test.YtmfhbmfadapdbaaDen0
namespace Go.Proofs.Ytmfhbmfadapdbaa
open Go.Abs Go.Proofs
set_option maxRecDepth 100000
theorem iCellIndex_callable : callable Try.prog 146 = true := by kernel_rfl
theorem iCellIndex_den (a : GNotebook) (b : Int) : denF { tt := tt, fs := [] } [(2, { n := 21, its := [.t 1 (.ro (.base .int)), .t 8 (.ro (.list (.base .cell))), .t 9 (.ro (.base .int)), .t 10 (.ro (.base .int))], boxes := [], ptrs := [] })] Try.f146 iCellIndexFS.ps iCellIndexFS.rs iCellIndexFS.ex (a, b) = iCellIndex a b := by kernel_rfl
theorem iCellIndex_sound : Sound Try.prog iCellIndexFS :=
  sound_of_den (E := { tt := tt, fs := [] }) (.nil tt_ok) mixed_ok [(2, { n := 21, its := [.t 1 (.ro (.base .int)), .t 8 (.ro (.list (.base .cell))), .t 9 (.ro (.base .int)), .t 10 (.ro (.base .int))], boxes := [], ptrs := [] })] (fn := Try.f146) (by kernel_rfl) fun x => iCellIndex_den x.1 x.2
theorem iIsPrintable_callable : callable Try.prog 212 = true := by kernel_rfl
theorem iIsPrintable_den (a : Str) : denF { tt := tt, fs := [] } [(2, { n := 23, its := [.t 0 (.ro (.base .str)), .t 3 (.ro (.base .int))], boxes := [], ptrs := [] })] Try.f212 iIsPrintableFS.ps iIsPrintableFS.rs iIsPrintableFS.ex a = iIsPrintable a := by kernel_rfl
theorem iIsPrintable_sound : Sound Try.prog iIsPrintableFS :=
  sound_of_den (E := { tt := tt, fs := [] }) (.nil tt_ok) mixed_ok [(2, { n := 23, its := [.t 0 (.ro (.base .str)), .t 3 (.ro (.base .int))], boxes := [], ptrs := [] })] (fn := Try.f212) (by kernel_rfl) fun x => iIsPrintable_den x
theorem iIsWord_callable : callable Try.prog 232 = true := by kernel_rfl
theorem iIsWord_den (a : Str) : denF { tt := tt, fs := [iWithinFS] } [(2, { n := 42, its := [.t 0 (.ro (.base .str)), .t 3 (.ro (.base .int))], boxes := [], ptrs := [] })] Try.f232 iIsWordFS.ps iIsWordFS.rs iIsWordFS.ex a = iIsWord a := by kernel_rfl
theorem iIsWord_sound : Sound Try.prog iIsWordFS :=
  sound_of_den (E := { tt := tt, fs := [iWithinFS] }) (.cons iWithin_callable iWithin_sound (.nil tt_ok)) mixed_ok [(2, { n := 42, its := [.t 0 (.ro (.base .str)), .t 3 (.ro (.base .int))], boxes := [], ptrs := [] })] (fn := Try.f232) (by kernel_rfl) fun x => iIsWord_den x
theorem iArgumentCount_callable : callable Try.prog 239 = true := by kernel_rfl
theorem iArgumentCount_den (a : Str) : denF { tt := tt, fs := [] } [] Try.f239 iArgumentCountFS.ps iArgumentCountFS.rs iArgumentCountFS.ex a = iArgumentCount a := by kernel_rfl
theorem iArgumentCount_sound : Sound Try.prog iArgumentCountFS :=
  sound_of_den (E := { tt := tt, fs := [] }) (.nil tt_ok) mixed_ok [] (fn := Try.f239) (by kernel_rfl) fun x => iArgumentCount_den x
theorem iIsReserved_callable : callable Try.prog 233 = true := by kernel_rfl
theorem iIsReserved_den (a : Str) : denF { tt := tt, fs := [iArgumentCountFS] } [] Try.f233 iIsReservedFS.ps iIsReservedFS.rs iIsReservedFS.ex a = iIsReserved a := by kernel_rfl
theorem iIsReserved_sound : Sound Try.prog iIsReservedFS :=
  sound_of_den (E := { tt := tt, fs := [iArgumentCountFS] }) (.cons iArgumentCount_callable iArgumentCount_sound (.nil tt_ok)) mixed_ok [] (fn := Try.f233) (by kernel_rfl) fun x => iIsReserved_den x
theorem iIsValidName_callable : callable Try.prog 213 = true := by kernel_rfl
theorem iIsValidName_den (a : Str) : denF { tt := tt, fs := [iIsWordFS, iIsReservedFS] } [] Try.f213 iIsValidNameFS.ps iIsValidNameFS.rs iIsValidNameFS.ex a = iIsValidName a := by kernel_rfl
theorem iIsValidName_sound : Sound Try.prog iIsValidNameFS :=
  sound_of_den (E := { tt := tt, fs := [iIsWordFS, iIsReservedFS] }) (.cons iIsWord_callable iIsWord_sound (.cons iIsReserved_callable iIsReserved_sound (.nil tt_ok))) mixed_ok [] (fn := Try.f213) (by kernel_rfl) fun x => iIsValidName_den x
theorem iIsValidCell_callable : callable Try.prog 185 = true := by kernel_rfl
theorem iIsValidCell_den (a : GCell) : denF { tt := tt, fs := [iWithinFS, iIsPrintableFS, iIsValidNameFS] } [] Try.f185 iIsValidCellFS.ps iIsValidCellFS.rs iIsValidCellFS.ex a = iIsValidCell a := by kernel_rfl
theorem iIsValidCell_sound : Sound Try.prog iIsValidCellFS :=
  sound_of_den (E := { tt := tt, fs := [iWithinFS, iIsPrintableFS, iIsValidNameFS] }) (.cons iWithin_callable iWithin_sound (.cons iIsPrintable_callable iIsPrintable_sound (.cons iIsValidName_callable iIsValidName_sound (.nil tt_ok)))) mixed_ok [] (fn := Try.f185) (by kernel_rfl) fun x => iIsValidCell_den x
theorem iIsValidNotebook_callable : callable Try.prog 147 = true := by kernel_rfl
theorem iIsValidNotebook_den (a : GNotebook) : denF { tt := tt, fs := [iCellIndexFS, iIsValidCellFS] } [(2, { n := 29, its := [.b 1 0 (.ro (.list (.base .cell))), .t 6 (.ro (.list (.base .cell))), .t 7 (.ro (.base .int)), .t 8 (.ro (.base .int))], boxes := [(1, 1)], ptrs := [(1, 1, 0)] })] Try.f147 iIsValidNotebookFS.ps iIsValidNotebookFS.rs iIsValidNotebookFS.ex a = iIsValidNotebook a := by kernel_rfl
theorem iIsValidNotebook_sound : Sound Try.prog iIsValidNotebookFS :=
  sound_of_den (E := { tt := tt, fs := [iCellIndexFS, iIsValidCellFS] }) (.cons iCellIndex_callable iCellIndex_sound (.cons iIsValidCell_callable iIsValidCell_sound (.nil tt_ok))) mixed_ok [(2, { n := 29, its := [.b 1 0 (.ro (.list (.base .cell))), .t 6 (.ro (.list (.base .cell))), .t 7 (.ro (.base .int)), .t 8 (.ro (.base .int))], boxes := [(1, 1)], ptrs := [(1, 1, 0)] })] (fn := Try.f147) (by kernel_rfl) fun x => iIsValidNotebook_den x
theorem iCopyNotebook_callable : callable Try.prog 148 = true := by kernel_rfl
theorem iCopyNotebook_den (a : GNotebook) : denF { tt := tt, fs := [] } [] Try.f148 iCopyNotebookFS.ps iCopyNotebookFS.rs iCopyNotebookFS.ex a = iCopyNotebook a := by kernel_rfl
theorem iCopyNotebook_sound : Sound Try.prog iCopyNotebookFS :=
  sound_of_den (E := { tt := tt, fs := [] }) (.nil tt_ok) mixed_ok [] (fn := Try.f148) (by kernel_rfl) fun x => iCopyNotebook_den x
theorem iInserted_callable : callable Try.prog 186 = true := by kernel_rfl
theorem iInserted_den (a : List GCell) (b : Int) (c : GCell) : denF { tt := tt, fs := [] } [] Try.f186 iInsertedFS.ps iInsertedFS.rs iInsertedFS.ex (a, b, c) = iInserted a b c := by kernel_rfl
theorem iInserted_sound : Sound Try.prog iInsertedFS :=
  sound_of_den (E := { tt := tt, fs := [] }) (.nil tt_ok) mixed_ok [] (fn := Try.f186) (by kernel_rfl) fun x => iInserted_den x.1 x.2.1 x.2.2
theorem iRemoved_callable : callable Try.prog 187 = true := by kernel_rfl
theorem iRemoved_den (a : List GCell) (b : Int) : denF { tt := tt, fs := [] } [] Try.f187 iRemovedFS.ps iRemovedFS.rs iRemovedFS.ex (a, b) = iRemoved a b := by kernel_rfl
theorem iRemoved_sound : Sound Try.prog iRemovedFS :=
  sound_of_den (E := { tt := tt, fs := [] }) (.nil tt_ok) mixed_ok [] (fn := Try.f187) (by kernel_rfl) fun x => iRemoved_den x.1 x.2
theorem iChange_callable : callable Try.prog 149 = true := by kernel_rfl
theorem iChange_den (a : GNotebook) (b : GEdit) : denF { tt := tt, fs := [iCellIndexFS, iCopyNotebookFS, iIsValidCellFS, iInsertedFS, iRemovedFS] } [] Try.f149 iChangeFS.ps iChangeFS.rs iChangeFS.ex (a, b) = iChange a b := by kernel_rfl
theorem iChange_sound : Sound Try.prog iChangeFS :=
  sound_of_den (E := { tt := tt, fs := [iCellIndexFS, iCopyNotebookFS, iIsValidCellFS, iInsertedFS, iRemovedFS] }) (.cons iCellIndex_callable iCellIndex_sound (.cons iCopyNotebook_callable iCopyNotebook_sound (.cons iIsValidCell_callable iIsValidCell_sound (.cons iInserted_callable iInserted_sound (.cons iRemoved_callable iRemoved_sound (.nil tt_ok)))))) mixed_ok [] (fn := Try.f149) (by kernel_rfl) fun x => iChange_den x.1 x.2
theorem iApplyEdit_callable : callable Try.prog 74 = true := by kernel_rfl
theorem iApplyEdit_den (a : GNotebook) (b : GEdit) : denF { tt := tt, fs := [iWithinFS, iIsValidNotebookFS, iCopyNotebookFS, iChangeFS] } [] Try.f74 iApplyEditFS.ps iApplyEditFS.rs iApplyEditFS.ex (a, b) = iApplyEdit a b := by kernel_rfl
theorem iApplyEdit_sound : Sound Try.prog iApplyEditFS :=
  sound_of_den (E := { tt := tt, fs := [iWithinFS, iIsValidNotebookFS, iCopyNotebookFS, iChangeFS] }) (.cons iWithin_callable iWithin_sound (.cons iIsValidNotebook_callable iIsValidNotebook_sound (.cons iCopyNotebook_callable iCopyNotebook_sound (.cons iChange_callable iChange_sound (.nil tt_ok))))) mixed_ok [] (fn := Try.f74) (by kernel_rfl) fun x => iApplyEdit_den x.1 x.2
theorem iInverseEdit_callable : callable Try.prog 73 = true := by kernel_rfl
theorem iInverseEdit_den (a : GNotebook) (b : GEdit) : denF { tt := tt, fs := [iApplyEditFS, iCellIndexFS] } [] Try.f73 iInverseEditFS.ps iInverseEditFS.rs iInverseEditFS.ex (a, b) = iInverseEdit a b := by kernel_rfl
theorem iInverseEdit_sound : Sound Try.prog iInverseEditFS :=
  sound_of_den (E := { tt := tt, fs := [iApplyEditFS, iCellIndexFS] }) (.cons iApplyEdit_callable iApplyEdit_sound (.cons iCellIndex_callable iCellIndex_sound (.nil tt_ok))) mixed_ok [] (fn := Try.f73) (by kernel_rfl) fun x => iInverseEdit_den x.1 x.2
theorem iInverseBatch_callable : callable Try.prog 17 = true := by kernel_rfl
theorem iInverseBatch_den (a : GNotebook) (b : List GEdit) : denF { tt := tt, fs := [iInverseEditFS, iApplyEditFS] } [(3, { n := 38, its := [.b 2 0 (.ro (.list (.base .cell))), .t 6 (.own (.base .edit) true true 0), .t 12 (.ro (.list (.base .edit))), .t 13 (.ro (.base .int)), .t 14 (.ro (.base .int))], boxes := [(2, 1)], ptrs := [(2, 2, 0)] })] Try.f17 iInverseBatchFS.ps iInverseBatchFS.rs iInverseBatchFS.ex (a, b) = iInverseBatch a b := by kernel_rfl
theorem iInverseBatch_sound : Sound Try.prog iInverseBatchFS :=
  sound_of_den (E := { tt := tt, fs := [iInverseEditFS, iApplyEditFS] }) (.cons iInverseEdit_callable iInverseEdit_sound (.cons iApplyEdit_callable iApplyEdit_sound (.nil tt_ok))) mixed_ok [(3, { n := 38, its := [.b 2 0 (.ro (.list (.base .cell))), .t 6 (.own (.base .edit) true true 0), .t 12 (.ro (.list (.base .edit))), .t 13 (.ro (.base .int)), .t 14 (.ro (.base .int))], boxes := [(2, 1)], ptrs := [(2, 2, 0)] })] (fn := Try.f17) (by kernel_rfl) fun x => iInverseBatch_den x.1 x.2
theorem eqCell_callable : callable Try.prog 150 = true := by kernel_rfl
theorem eqCell_den (a : GCell) (b : GCell) : denF { tt := tt, fs := [] } [] Try.f150 eqCellFS.ps eqCellFS.rs eqCellFS.ex (a, b) = eqCell a b := by kernel_rfl
theorem eqCell_sound : Sound Try.prog eqCellFS :=
  sound_of_den (E := { tt := tt, fs := [] }) (.nil tt_ok) mixed_ok [] (fn := Try.f150) (by kernel_rfl) fun x => eqCell_den x.1 x.2
theorem eqEdit_callable : callable Try.prog 75 = true := by kernel_rfl
theorem eqEdit_den (a : GEdit) (b : GEdit) : denF { tt := tt, fs := [eqCellFS] } [] Try.f75 eqEditFS.ps eqEditFS.rs eqEditFS.ex (a, b) = eqEdit a b := by kernel_rfl
theorem eqEdit_sound : Sound Try.prog eqEditFS :=
  sound_of_den (E := { tt := tt, fs := [eqCellFS] }) (.cons eqCell_callable eqCell_sound (.nil tt_ok)) mixed_ok [] (fn := Try.f75) (by kernel_rfl) fun x => eqEdit_den x.1 x.2
theorem eqEditS_callable : callable Try.prog 18 = true := by kernel_rfl
theorem eqEditS_den (a : List GEdit) (b : List GEdit) : denF { tt := tt, fs := [eqEditFS] } [(4, { n := 27, its := [.t 0 (.ro (.list (.base .edit))), .t 1 (.ro (.list (.base .edit))), .t 5 (.ro (.base .int))], boxes := [], ptrs := [] })] Try.f18 eqEditSFS.ps eqEditSFS.rs eqEditSFS.ex (a, b) = eqEditS a b := by kernel_rfl
theorem eqEditS_sound : Sound Try.prog eqEditSFS :=
  sound_of_den (E := { tt := tt, fs := [eqEditFS] }) (.cons eqEdit_callable eqEdit_sound (.nil tt_ok)) mixed_ok [(4, { n := 27, its := [.t 0 (.ro (.list (.base .edit))), .t 1 (.ro (.list (.base .edit))), .t 5 (.ro (.base .int))], boxes := [], ptrs := [] })] (fn := Try.f18) (by kernel_rfl) fun x => eqEditS_den x.1 x.2
theorem eqCellS_callable : callable Try.prog 76 = true := by kernel_rfl
theorem eqCellS_den (a : List GCell) (b : List GCell) : denF { tt := tt, fs := [eqCellFS] } [(4, { n := 27, its := [.t 0 (.ro (.list (.base .cell))), .t 1 (.ro (.list (.base .cell))), .t 5 (.ro (.base .int))], boxes := [], ptrs := [] })] Try.f76 eqCellSFS.ps eqCellSFS.rs eqCellSFS.ex (a, b) = eqCellS a b := by kernel_rfl
theorem eqCellS_sound : Sound Try.prog eqCellSFS :=
  sound_of_den (E := { tt := tt, fs := [eqCellFS] }) (.cons eqCell_callable eqCell_sound (.nil tt_ok)) mixed_ok [(4, { n := 27, its := [.t 0 (.ro (.list (.base .cell))), .t 1 (.ro (.list (.base .cell))), .t 5 (.ro (.base .int))], boxes := [], ptrs := [] })] (fn := Try.f76) (by kernel_rfl) fun x => eqCellS_den x.1 x.2
theorem eqNotebook_callable : callable Try.prog 19 = true := by kernel_rfl
theorem eqNotebook_den (a : GNotebook) (b : GNotebook) : denF { tt := tt, fs := [eqCellSFS] } [] Try.f19 eqNotebookFS.ps eqNotebookFS.rs eqNotebookFS.ex (a, b) = eqNotebook a b := by kernel_rfl
theorem eqNotebook_sound : Sound Try.prog eqNotebookFS :=
  sound_of_den (E := { tt := tt, fs := [eqCellSFS] }) (.cons eqCellS_callable eqCellS_sound (.nil tt_ok)) mixed_ok [] (fn := Try.f19) (by kernel_rfl) fun x => eqNotebook_den x.1 x.2
theorem markText_callable : callable Try.prog 78 = true := by kernel_rfl
theorem markText_den (a : Int) : denF { tt := tt, fs := [] } [(4, { n := 20, its := [.t 0 (.ro (.base .int)), .t 3 (.ro (.base .str))], boxes := [], ptrs := [] })] Try.f78 markTextFS.ps markTextFS.rs markTextFS.ex a = markText a := by kernel_rfl
theorem markText_sound : Sound Try.prog markTextFS :=
  sound_of_den (E := { tt := tt, fs := [] }) (.nil tt_ok) mixed_ok [(4, { n := 20, its := [.t 0 (.ro (.base .int)), .t 3 (.ro (.base .str))], boxes := [], ptrs := [] })] (fn := Try.f78) (by kernel_rfl) fun x => markText_den x
theorem markCellS_callable : callable Try.prog 77 = true := by kernel_rfl
theorem markCellS_den (a : List GCell) (b : Int) : denMF { tt := tt, fs := [markTextFS] } [(2, { n := 57, ty := .base .cell, si := 5, sk := 1 })] Try.f77 markCellSMS.sh a b = markCellS a b := by kernel_rfl
theorem markCellS_msound : MSound Try.prog markCellSMS :=
  msound_of_den (E := { tt := tt, fs := [markTextFS] }) (.cons markText_callable markText_sound (.nil tt_ok)) [(2, { n := 57, ty := .base .cell, si := 5, sk := 1 })] (fn := Try.f77) (by kernel_rfl) fun x n => markCellS_den x n
theorem markNotebook_callable : callable Try.prog 20 = true := by kernel_rfl
theorem markNotebook_den (a : GNotebook) (b : Int) : denMF { tt := tt, fs := [], ms := [markCellSMS] } [] Try.f20 markNotebookMS.sh a b = markNotebook a b := by kernel_rfl
theorem markNotebook_msound : MSound Try.prog markNotebookMS :=
  msound_of_den (E := { tt := tt, fs := [], ms := [markCellSMS] }) (.consM markCellS_callable markCellS_msound (.nil tt_ok)) [] (fn := Try.f20) (by kernel_rfl) fun x n => markNotebook_den x n
theorem markEditS_callable : callable Try.prog 21 = true := by kernel_rfl
theorem markEditS_den (a : List GEdit) (b : Int) : denMF { tt := tt, fs := [markTextFS] } [(2, { n := 77, ty := .base .edit, si := 5, sk := 1 })] Try.f21 markEditSMS.sh a b = markEditS a b := by kernel_rfl
theorem markEditS_msound : MSound Try.prog markEditSMS :=
  msound_of_den (E := { tt := tt, fs := [markTextFS] }) (.cons markText_callable markText_sound (.nil tt_ok)) [(2, { n := 77, ty := .base .edit, si := 5, sk := 1 })] (fn := Try.f21) (by kernel_rfl) fun x n => markEditS_den x n
theorem heldEditS_callable : callable Try.prog 22 = true := by kernel_rfl
theorem heldEditS_den (a : List GEdit) (b : Int) : denF { tt := tt, fs := [markTextFS] } [(2, { n := 93, its := [.t 0 (.ro (.list (.base .edit))), .t 1 (.ro (.base .int)), .t 5 (.ro (.base .int))], boxes := [], ptrs := [] })] Try.f22 heldEditSFS.ps heldEditSFS.rs heldEditSFS.ex (a, b) = heldEditS a b := by kernel_rfl
theorem heldEditS_sound : Sound Try.prog heldEditSFS :=
  sound_of_den (E := { tt := tt, fs := [markTextFS] }) (.cons markText_callable markText_sound (.nil tt_ok)) mixed_ok [(2, { n := 93, its := [.t 0 (.ro (.list (.base .edit))), .t 1 (.ro (.base .int)), .t 5 (.ro (.base .int))], boxes := [], ptrs := [] })] (fn := Try.f22) (by kernel_rfl) fun x => heldEditS_den x.1 x.2
theorem FnExactInverseBatch_callable : callable Try.prog 3 = true := by kernel_rfl
theorem FnExactInverseBatch_den (a : GNotebook) (b : List GEdit) : denF { tt := tt, fs := [szNotebookFS, szEditSFS, sInverseBatchFS, toNotebookFS, toEditSFS, iInverseBatchFS, eqEditSFS, eqNotebookFS, heldEditSFS], ms := [markNotebookMS, markEditSMS], trees := true } [] Try.f3 FnExactInverseBatchFS.ps FnExactInverseBatchFS.rs FnExactInverseBatchFS.ex (a, b) = FnExactInverseBatch a b := by kernel_rfl
theorem FnExactInverseBatch_sound : Sound Try.prog FnExactInverseBatchFS :=
  sound_of_den (E := { tt := tt, fs := [szNotebookFS, szEditSFS, sInverseBatchFS, toNotebookFS, toEditSFS, iInverseBatchFS, eqEditSFS, eqNotebookFS, heldEditSFS], ms := [markNotebookMS, markEditSMS], trees := true }) (.cons szNotebook_callable szNotebook_sound (.cons szEditS_callable szEditS_sound (.cons sInverseBatch_callable sInverseBatch_sound (.cons toNotebook_callable toNotebook_sound (.cons toEditS_callable toEditS_sound (.cons iInverseBatch_callable iInverseBatch_sound (.cons eqEditS_callable eqEditS_sound (.cons eqNotebook_callable eqNotebook_sound (.cons heldEditS_callable heldEditS_sound (.consM markNotebook_callable markNotebook_msound (.consM markEditS_callable markEditS_msound (.nil tt_ok)))))))))))) mixed_ok [] (fn := Try.f3) (by kernel_rfl) fun x => FnExactInverseBatch_den x.1 x.2
theorem szNode_callable : callable Try.prog 151 = true := by kernel_rfl
theorem szNode_den (a : GNode) (b : Int) : denF { tt := tt, fs := [szEditSFS] } [] Try.f151 szNodeFS.ps szNodeFS.rs szNodeFS.ex (a, b) = szNode a b := by kernel_rfl
theorem szNode_sound : Sound Try.prog szNodeFS :=
  sound_of_den (E := { tt := tt, fs := [szEditSFS] }) (.cons szEditS_callable szEditS_sound (.nil tt_ok)) mixed_ok [] (fn := Try.f151) (by kernel_rfl) fun x => szNode_den x.1 x.2
theorem szNodeS_callable : callable Try.prog 79 = true := by kernel_rfl
theorem szNodeS_den (a : List GNode) (b : Int) : denF { tt := tt, fs := [szNodeFS] } [(5, { n := 27, its := [.t 0 (.ro (.list (.base .node))), .t 1 (.ro (.base .int)), .t 5 (.ro (.base .int))], boxes := [], ptrs := [] })] Try.f79 szNodeSFS.ps szNodeSFS.rs szNodeSFS.ex (a, b) = szNodeS a b := by kernel_rfl
theorem szNodeS_sound : Sound Try.prog szNodeSFS :=
  sound_of_den (E := { tt := tt, fs := [szNodeFS] }) (.cons szNode_callable szNode_sound (.nil tt_ok)) mixed_ok [(5, { n := 27, its := [.t 0 (.ro (.list (.base .node))), .t 1 (.ro (.base .int)), .t 5 (.ro (.base .int))], boxes := [], ptrs := [] })] (fn := Try.f79) (by kernel_rfl) fun x => szNodeS_den x.1 x.2
theorem szHistory_callable : callable Try.prog 23 = true := by kernel_rfl
theorem szHistory_den (a : GHistory) (b : Int) : denF { tt := tt, fs := [szNotebookFS, szNodeSFS] } [] Try.f23 szHistoryFS.ps szHistoryFS.rs szHistoryFS.ex (a, b) = szHistory a b := by kernel_rfl
theorem szHistory_sound : Sound Try.prog szHistoryFS :=
  sound_of_den (E := { tt := tt, fs := [szNotebookFS, szNodeSFS] }) (.cons szNotebook_callable szNotebook_sound (.cons szNodeS_callable szNodeS_sound (.nil tt_ok))) mixed_ok [] (fn := Try.f23) (by kernel_rfl) fun x => szHistory_den x.1 x.2
theorem sIsValidHistory_callable : callable Try.prog 80 = true := by kernel_rfl
theorem sIsValidHistory_den (a : GHistory) : denF { tt := tt, fs := [sL1InFS, sIsValidNotebookFS] } [(3, { n := 53, its := [.b 1 0 (.ro (.list (.base .cell))), .b 1 1 (.ro (.list (.base .node))), .b 1 2 (.ro (.base .int)), .t 3 (.ro (.base .int)), .t 4 (.ro (.base .int))], boxes := [(1, 3)], ptrs := [(1, 1, 0)] })] Try.f80 sIsValidHistoryFS.ps sIsValidHistoryFS.rs sIsValidHistoryFS.ex a = sIsValidHistory a := by kernel_rfl
theorem sIsValidHistory_sound : Sound Try.prog sIsValidHistoryFS :=
  sound_of_den (E := { tt := tt, fs := [sL1InFS, sIsValidNotebookFS] }) (.cons sL1In_callable sL1In_sound (.cons sIsValidNotebook_callable sIsValidNotebook_sound (.nil tt_ok))) mixed_ok [(3, { n := 53, its := [.b 1 0 (.ro (.list (.base .cell))), .b 1 1 (.ro (.list (.base .node))), .b 1 2 (.ro (.base .int)), .t 3 (.ro (.base .int)), .t 4 (.ro (.base .int))], boxes := [(1, 3)], ptrs := [(1, 1, 0)] })] (fn := Try.f80) (by kernel_rfl) fun x => sIsValidHistory_den x
end Go.Proofs.Ytmfhbmfadapdbaa
