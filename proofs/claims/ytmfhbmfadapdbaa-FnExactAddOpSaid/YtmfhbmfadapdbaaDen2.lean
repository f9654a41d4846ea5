/- The functions compute their models, by gen.py. -/
import Derived.Test.YtmfhbmfadapdbaaDen1
namespace Go.Proofs.Ytmfhbmfadapdbaa
open Go.Abs Go.Proofs
set_option maxRecDepth 100000
theorem sL40Edits_callable : callable Try.prog 94 = true := by kernel_rfl
theorem sL40Edits_den (a : List GEdit) : denF { tt := tt, fs := [] } [] Try.f94 sL40EditsFS.ps sL40EditsFS.rs sL40EditsFS.ex a = sL40Edits a := by kernel_rfl
theorem sL40Edits_sound : Sound Try.prog sL40EditsFS :=
  sound_of_den (E := { tt := tt, fs := [] }) (.nil tt_ok) mixed_ok [] (fn := Try.f94) (by kernel_rfl) fun x => sL40Edits_den x
theorem sL40Copy_callable : callable Try.prog 82 = true := by kernel_rfl
theorem sL40Copy_den (a : GHistory) : denF { tt := tt, fs := [sL17CopyFS, sL40EditsFS] } [(3, { n := 39, its := [.b 1 0 (.ro (.list (.base .cell))), .b 1 1 (.ro (.list (.base .node))), .b 1 2 (.ro (.base .int)), .b 2 0 (.own (.base .cell) true true 0), .b 2 1 (.own (.base .node) true true 4), .b 2 2 (.ro (.base .int)), .b 3 0 (.own (.base .cell) true true 6), .b 3 1 (.own (.base .node) true true 7), .b 3 2 (.ro (.base .int)), .t 4 (.ro (.base .int))], boxes := [(1, 3), (2, 3), (3, 3)], ptrs := [(1, 1, 0), (2, 2, 0), (3, 3, 0)] })] Try.f82 sL40CopyFS.ps sL40CopyFS.rs sL40CopyFS.ex a = sL40Copy a := by kernel_rfl
theorem sL40Copy_sound : Sound Try.prog sL40CopyFS :=
  sound_of_den (E := { tt := tt, fs := [sL17CopyFS, sL40EditsFS] }) (.cons sL17Copy_callable sL17Copy_sound (.cons sL40Edits_callable sL40Edits_sound (.nil tt_ok))) mixed_ok [(3, { n := 39, its := [.b 1 0 (.ro (.list (.base .cell))), .b 1 1 (.ro (.list (.base .node))), .b 1 2 (.ro (.base .int)), .b 2 0 (.own (.base .cell) true true 0), .b 2 1 (.own (.base .node) true true 4), .b 2 2 (.ro (.base .int)), .b 3 0 (.own (.base .cell) true true 6), .b 3 1 (.own (.base .node) true true 7), .b 3 2 (.ro (.base .int)), .t 4 (.ro (.base .int))], boxes := [(1, 3), (2, 3), (3, 3)], ptrs := [(1, 1, 0), (2, 2, 0), (3, 3, 0)] })] (fn := Try.f82) (by kernel_rfl) fun x => sL40Copy_den x
theorem sApplyBatch_callable : callable Try.prog 93 = true := by kernel_rfl
theorem sApplyBatch_den (a : GNotebook) (b : List GEdit) : denF { tt := tt, fs := [sL17CopyFS, sApplyEditFS] } [(3, { n := 34, its := [.t 1 (.ro (.list (.base .edit))), .b 2 0 (.ro (.list (.base .cell))), .b 4 0 (.own (.base .cell) true true 0), .b 6 0 (.own (.base .cell) true true 1), .t 7 (.ro (.base .int))], boxes := [(2, 1), (4, 1), (6, 1)], ptrs := [(2, 2, 0), (4, 4, 0), (6, 6, 0)] })] Try.f93 sApplyBatchFS.ps sApplyBatchFS.rs sApplyBatchFS.ex (a, b) = sApplyBatch a b := by kernel_rfl
theorem sApplyBatch_sound : Sound Try.prog sApplyBatchFS :=
  sound_of_den (E := { tt := tt, fs := [sL17CopyFS, sApplyEditFS] }) (.cons sL17Copy_callable sL17Copy_sound (.cons sApplyEdit_callable sApplyEdit_sound (.nil tt_ok))) mixed_ok [(3, { n := 34, its := [.t 1 (.ro (.list (.base .edit))), .b 2 0 (.ro (.list (.base .cell))), .b 4 0 (.own (.base .cell) true true 0), .b 6 0 (.own (.base .cell) true true 1), .t 7 (.ro (.base .int))], boxes := [(2, 1), (4, 1), (6, 1)], ptrs := [(2, 2, 0), (4, 4, 0), (6, 6, 0)] })] (fn := Try.f93) (by kernel_rfl) fun x => sApplyBatch_den x.1 x.2
theorem sL40Move_callable : callable Try.prog 83 = true := by kernel_rfl
theorem sL40Move_den (a : GHistory) (b : List GEdit) (c : Int) : denF { tt := tt, fs := [sL40CopyFS, sApplyBatchFS] } [] Try.f83 sL40MoveFS.ps sL40MoveFS.rs sL40MoveFS.ex (a, b, c) = sL40Move a b c := by kernel_rfl
theorem sL40Move_sound : Sound Try.prog sL40MoveFS :=
  sound_of_den (E := { tt := tt, fs := [sL40CopyFS, sApplyBatchFS] }) (.cons sL40Copy_callable sL40Copy_sound (.cons sApplyBatch_callable sApplyBatch_sound (.nil tt_ok))) mixed_ok [] (fn := Try.f83) (by kernel_rfl) fun x => sL40Move_den x.1 x.2.1 x.2.2
theorem sRedoEdits_callable : callable Try.prog 24 = true := by kernel_rfl
theorem sRedoEdits_den (a : GHistory) (b : Int) : denF { tt := tt, fs := [sIsValidHistoryFS, sL1InFS, sL40CopyFS, sL40MoveFS] } [] Try.f24 sRedoEditsFS.ps sRedoEditsFS.rs sRedoEditsFS.ex (a, b) = sRedoEdits a b := by kernel_rfl
theorem sRedoEdits_sound : Sound Try.prog sRedoEditsFS :=
  sound_of_den (E := { tt := tt, fs := [sIsValidHistoryFS, sL1InFS, sL40CopyFS, sL40MoveFS] }) (.cons sIsValidHistory_callable sIsValidHistory_sound (.cons sL1In_callable sL1In_sound (.cons sL40Copy_callable sL40Copy_sound (.cons sL40Move_callable sL40Move_sound (.nil tt_ok))))) mixed_ok [] (fn := Try.f24) (by kernel_rfl) fun x => sRedoEdits_den x.1 x.2
theorem toNode_callable : callable Try.prog 152 = true := by kernel_rfl
theorem toNode_den (a : GNode) : denF { tt := tt, fs := [toEditSFS] } [] Try.f152 toNodeFS.ps toNodeFS.rs toNodeFS.ex a = toNode a := by kernel_rfl
theorem toNode_sound : Sound Try.prog toNodeFS :=
  sound_of_den (E := { tt := tt, fs := [toEditSFS] }) (.cons toEditS_callable toEditS_sound (.nil tt_ok)) mixed_ok [] (fn := Try.f152) (by kernel_rfl) fun x => toNode_den x
theorem toNodeS_callable : callable Try.prog 84 = true := by kernel_rfl
theorem toNodeS_den (a : List GNode) : denF { tt := tt, fs := [toNodeFS] } [(3, { n := 23, its := [.t 0 (.ro (.list (.base .node))), .t 3 (.own (.base .node) true true 0), .t 4 (.ro (.base .int))], boxes := [], ptrs := [] })] Try.f84 toNodeSFS.ps toNodeSFS.rs toNodeSFS.ex a = toNodeS a := by kernel_rfl
theorem toNodeS_sound : Sound Try.prog toNodeSFS :=
  sound_of_den (E := { tt := tt, fs := [toNodeFS] }) (.cons toNode_callable toNode_sound (.nil tt_ok)) mixed_ok [(3, { n := 23, its := [.t 0 (.ro (.list (.base .node))), .t 3 (.own (.base .node) true true 0), .t 4 (.ro (.base .int))], boxes := [], ptrs := [] })] (fn := Try.f84) (by kernel_rfl) fun x => toNodeS_den x
theorem toHistory_callable : callable Try.prog 25 = true := by kernel_rfl
theorem toHistory_den (a : GHistory) : denF { tt := tt, fs := [toNotebookFS, toNodeSFS] } [] Try.f25 toHistoryFS.ps toHistoryFS.rs toHistoryFS.ex a = toHistory a := by kernel_rfl
theorem toHistory_sound : Sound Try.prog toHistoryFS :=
  sound_of_den (E := { tt := tt, fs := [toNotebookFS, toNodeSFS] }) (.cons toNotebook_callable toNotebook_sound (.cons toNodeS_callable toNodeS_sound (.nil tt_ok))) mixed_ok [] (fn := Try.f25) (by kernel_rfl) fun x => toHistory_den x
theorem iIsValidHistory_callable : callable Try.prog 85 = true := by kernel_rfl
theorem iIsValidHistory_den (a : GHistory) : denF { tt := tt, fs := [iWithinFS, iIsValidNotebookFS] } [(4, { n := 49, its := [.t 36 (.ro (.list (.base .node))), .t 37 (.ro (.base .int)), .t 38 (.ro (.base .int))], boxes := [], ptrs := [] })] Try.f85 iIsValidHistoryFS.ps iIsValidHistoryFS.rs iIsValidHistoryFS.ex a = iIsValidHistory a := by kernel_rfl
theorem iIsValidHistory_sound : Sound Try.prog iIsValidHistoryFS :=
  sound_of_den (E := { tt := tt, fs := [iWithinFS, iIsValidNotebookFS] }) (.cons iWithin_callable iWithin_sound (.cons iIsValidNotebook_callable iIsValidNotebook_sound (.nil tt_ok))) mixed_ok [(4, { n := 49, its := [.t 36 (.ro (.list (.base .node))), .t 37 (.ro (.base .int)), .t 38 (.ro (.base .int))], boxes := [], ptrs := [] })] (fn := Try.f85) (by kernel_rfl) fun x => iIsValidHistory_den x
theorem iCopyEdits_callable : callable Try.prog 95 = true := by kernel_rfl
theorem iCopyEdits_den (a : List GEdit) : denF { tt := tt, fs := [] } [] Try.f95 iCopyEditsFS.ps iCopyEditsFS.rs iCopyEditsFS.ex a = iCopyEdits a := by kernel_rfl
theorem iCopyEdits_sound : Sound Try.prog iCopyEditsFS :=
  sound_of_den (E := { tt := tt, fs := [] }) (.nil tt_ok) mixed_ok [] (fn := Try.f95) (by kernel_rfl) fun x => iCopyEdits_den x
theorem iCopyHistory_callable : callable Try.prog 87 = true := by kernel_rfl
theorem iCopyHistory_den (a : GHistory) : denF { tt := tt, fs := [iCopyEditsFS, iCopyNotebookFS] } [(3, { n := 35, its := [.b 2 0 (.own (.base .cell) true true 0), .b 2 1 (.own (.base .node) true true 4), .b 2 2 (.ro (.base .int)), .b 3 0 (.own (.base .cell) true true 6), .b 3 1 (.own (.base .node) true true 7), .b 3 2 (.ro (.base .int)), .t 13 (.ro (.list (.base .node))), .t 14 (.ro (.base .int)), .t 15 (.ro (.base .int))], boxes := [(2, 3), (3, 3)], ptrs := [(2, 2, 0), (3, 3, 0)] })] Try.f87 iCopyHistoryFS.ps iCopyHistoryFS.rs iCopyHistoryFS.ex a = iCopyHistory a := by kernel_rfl
theorem iCopyHistory_sound : Sound Try.prog iCopyHistoryFS :=
  sound_of_den (E := { tt := tt, fs := [iCopyEditsFS, iCopyNotebookFS] }) (.cons iCopyEdits_callable iCopyEdits_sound (.cons iCopyNotebook_callable iCopyNotebook_sound (.nil tt_ok))) mixed_ok [(3, { n := 35, its := [.b 2 0 (.own (.base .cell) true true 0), .b 2 1 (.own (.base .node) true true 4), .b 2 2 (.ro (.base .int)), .b 3 0 (.own (.base .cell) true true 6), .b 3 1 (.own (.base .node) true true 7), .b 3 2 (.ro (.base .int)), .t 13 (.ro (.list (.base .node))), .t 14 (.ro (.base .int)), .t 15 (.ro (.base .int))], boxes := [(2, 3), (3, 3)], ptrs := [(2, 2, 0), (3, 3, 0)] })] (fn := Try.f87) (by kernel_rfl) fun x => iCopyHistory_den x
theorem iApplyBatch_callable : callable Try.prog 153 = true := by kernel_rfl
theorem iApplyBatch_den (a : GNotebook) (b : List GEdit) : denF { tt := tt, fs := [iApplyEditFS, iCopyNotebookFS] } [(3, { n := 34, its := [.b 2 0 (.ro (.list (.base .cell))), .b 4 0 (.own (.base .cell) true true 0), .b 6 0 (.own (.base .cell) true true 1), .t 13 (.ro (.list (.base .edit))), .t 14 (.ro (.base .int)), .t 15 (.ro (.base .int))], boxes := [(2, 1), (4, 1), (6, 1)], ptrs := [(2, 2, 0), (4, 4, 0), (6, 6, 0)] })] Try.f153 iApplyBatchFS.ps iApplyBatchFS.rs iApplyBatchFS.ex (a, b) = iApplyBatch a b := by kernel_rfl
theorem iApplyBatch_sound : Sound Try.prog iApplyBatchFS :=
  sound_of_den (E := { tt := tt, fs := [iApplyEditFS, iCopyNotebookFS] }) (.cons iApplyEdit_callable iApplyEdit_sound (.cons iCopyNotebook_callable iCopyNotebook_sound (.nil tt_ok))) mixed_ok [(3, { n := 34, its := [.b 2 0 (.ro (.list (.base .cell))), .b 4 0 (.own (.base .cell) true true 0), .b 6 0 (.own (.base .cell) true true 1), .t 13 (.ro (.list (.base .edit))), .t 14 (.ro (.base .int)), .t 15 (.ro (.base .int))], boxes := [(2, 1), (4, 1), (6, 1)], ptrs := [(2, 2, 0), (4, 4, 0), (6, 6, 0)] })] (fn := Try.f153) (by kernel_rfl) fun x => iApplyBatch_den x.1 x.2
theorem iStep_callable : callable Try.prog 88 = true := by kernel_rfl
theorem iStep_den (a : GHistory) (b : List GEdit) (c : Int) : denF { tt := tt, fs := [iCopyHistoryFS, iApplyBatchFS] } [] Try.f88 iStepFS.ps iStepFS.rs iStepFS.ex (a, b, c) = iStep a b c := by kernel_rfl
theorem iStep_sound : Sound Try.prog iStepFS :=
  sound_of_den (E := { tt := tt, fs := [iCopyHistoryFS, iApplyBatchFS] }) (.cons iCopyHistory_callable iCopyHistory_sound (.cons iApplyBatch_callable iApplyBatch_sound (.nil tt_ok))) mixed_ok [] (fn := Try.f88) (by kernel_rfl) fun x => iStep_den x.1 x.2.1 x.2.2
theorem iRedoEdits_callable : callable Try.prog 26 = true := by kernel_rfl
theorem iRedoEdits_den (a : GHistory) (b : Int) : denF { tt := tt, fs := [iIsValidHistoryFS, iWithinFS, iCopyHistoryFS, iStepFS] } [] Try.f26 iRedoEditsFS.ps iRedoEditsFS.rs iRedoEditsFS.ex (a, b) = iRedoEdits a b := by kernel_rfl
theorem iRedoEdits_sound : Sound Try.prog iRedoEditsFS :=
  sound_of_den (E := { tt := tt, fs := [iIsValidHistoryFS, iWithinFS, iCopyHistoryFS, iStepFS] }) (.cons iIsValidHistory_callable iIsValidHistory_sound (.cons iWithin_callable iWithin_sound (.cons iCopyHistory_callable iCopyHistory_sound (.cons iStep_callable iStep_sound (.nil tt_ok))))) mixed_ok [] (fn := Try.f26) (by kernel_rfl) fun x => iRedoEdits_den x.1 x.2
theorem eqNode_callable : callable Try.prog 154 = true := by kernel_rfl
theorem eqNode_den (a : GNode) (b : GNode) : denF { tt := tt, fs := [eqEditSFS] } [] Try.f154 eqNodeFS.ps eqNodeFS.rs eqNodeFS.ex (a, b) = eqNode a b := by kernel_rfl
theorem eqNode_sound : Sound Try.prog eqNodeFS :=
  sound_of_den (E := { tt := tt, fs := [eqEditSFS] }) (.cons eqEditS_callable eqEditS_sound (.nil tt_ok)) mixed_ok [] (fn := Try.f154) (by kernel_rfl) fun x => eqNode_den x.1 x.2
theorem eqNodeS_callable : callable Try.prog 89 = true := by kernel_rfl
theorem eqNodeS_den (a : List GNode) (b : List GNode) : denF { tt := tt, fs := [eqNodeFS] } [(4, { n := 27, its := [.t 0 (.ro (.list (.base .node))), .t 1 (.ro (.list (.base .node))), .t 5 (.ro (.base .int))], boxes := [], ptrs := [] })] Try.f89 eqNodeSFS.ps eqNodeSFS.rs eqNodeSFS.ex (a, b) = eqNodeS a b := by kernel_rfl
theorem eqNodeS_sound : Sound Try.prog eqNodeSFS :=
  sound_of_den (E := { tt := tt, fs := [eqNodeFS] }) (.cons eqNode_callable eqNode_sound (.nil tt_ok)) mixed_ok [(4, { n := 27, its := [.t 0 (.ro (.list (.base .node))), .t 1 (.ro (.list (.base .node))), .t 5 (.ro (.base .int))], boxes := [], ptrs := [] })] (fn := Try.f89) (by kernel_rfl) fun x => eqNodeS_den x.1 x.2
theorem eqHistory_callable : callable Try.prog 27 = true := by kernel_rfl
theorem eqHistory_den (a : GHistory) (b : GHistory) : denF { tt := tt, fs := [eqNotebookFS, eqNodeSFS] } [] Try.f27 eqHistoryFS.ps eqHistoryFS.rs eqHistoryFS.ex (a, b) = eqHistory a b := by kernel_rfl
theorem eqHistory_sound : Sound Try.prog eqHistoryFS :=
  sound_of_den (E := { tt := tt, fs := [eqNotebookFS, eqNodeSFS] }) (.cons eqNotebook_callable eqNotebook_sound (.cons eqNodeS_callable eqNodeS_sound (.nil tt_ok))) mixed_ok [] (fn := Try.f27) (by kernel_rfl) fun x => eqHistory_den x.1 x.2
theorem markNodeS_callable : callable Try.prog 90 = true := by kernel_rfl
theorem markNodeS_den (a : List GNode) (b : Int) : denMF { tt := tt, fs := [], ms := [markEditSMS] } [(2, { n := 34, ty := .base .node, si := 5, sk := 1 })] Try.f90 markNodeSMS.sh a b = markNodeS a b := by kernel_rfl
theorem markNodeS_msound : MSound Try.prog markNodeSMS :=
  msound_of_den (E := { tt := tt, fs := [], ms := [markEditSMS] }) (.consM markEditS_callable markEditS_msound (.nil tt_ok)) [(2, { n := 34, ty := .base .node, si := 5, sk := 1 })] (fn := Try.f90) (by kernel_rfl) fun x n => markNodeS_den x n
theorem markHistory_callable : callable Try.prog 28 = true := by kernel_rfl
theorem markHistory_den (a : GHistory) (b : Int) : denMF { tt := tt, fs := [], ms := [markNotebookMS, markNodeSMS] } [] Try.f28 markHistoryMS.sh a b = markHistory a b := by kernel_rfl
theorem markHistory_msound : MSound Try.prog markHistoryMS :=
  msound_of_den (E := { tt := tt, fs := [], ms := [markNotebookMS, markNodeSMS] }) (.consM markNotebook_callable markNotebook_msound (.consM markNodeS_callable markNodeS_msound (.nil tt_ok))) [] (fn := Try.f28) (by kernel_rfl) fun x n => markHistory_den x n
theorem heldCellS_callable : callable Try.prog 155 = true := by kernel_rfl
theorem heldCellS_den (a : List GCell) (b : Int) : denF { tt := tt, fs := [markTextFS] } [(2, { n := 69, its := [.t 0 (.ro (.list (.base .cell))), .t 1 (.ro (.base .int)), .t 5 (.ro (.base .int))], boxes := [], ptrs := [] })] Try.f155 heldCellSFS.ps heldCellSFS.rs heldCellSFS.ex (a, b) = heldCellS a b := by kernel_rfl
theorem heldCellS_sound : Sound Try.prog heldCellSFS :=
  sound_of_den (E := { tt := tt, fs := [markTextFS] }) (.cons markText_callable markText_sound (.nil tt_ok)) mixed_ok [(2, { n := 69, its := [.t 0 (.ro (.list (.base .cell))), .t 1 (.ro (.base .int)), .t 5 (.ro (.base .int))], boxes := [], ptrs := [] })] (fn := Try.f155) (by kernel_rfl) fun x => heldCellS_den x.1 x.2
theorem heldNotebook_callable : callable Try.prog 91 = true := by kernel_rfl
theorem heldNotebook_den (a : GNotebook) (b : Int) : denF { tt := tt, fs := [heldCellSFS] } [] Try.f91 heldNotebookFS.ps heldNotebookFS.rs heldNotebookFS.ex (a, b) = heldNotebook a b := by kernel_rfl
theorem heldNotebook_sound : Sound Try.prog heldNotebookFS :=
  sound_of_den (E := { tt := tt, fs := [heldCellSFS] }) (.cons heldCellS_callable heldCellS_sound (.nil tt_ok)) mixed_ok [] (fn := Try.f91) (by kernel_rfl) fun x => heldNotebook_den x.1 x.2
theorem heldNodeS_callable : callable Try.prog 92 = true := by kernel_rfl
theorem heldNodeS_den (a : List GNode) (b : Int) : denF { tt := tt, fs := [heldEditSFS] } [(2, { n := 40, its := [.t 0 (.ro (.list (.base .node))), .t 1 (.ro (.base .int)), .t 5 (.ro (.base .int))], boxes := [], ptrs := [] })] Try.f92 heldNodeSFS.ps heldNodeSFS.rs heldNodeSFS.ex (a, b) = heldNodeS a b := by kernel_rfl
theorem heldNodeS_sound : Sound Try.prog heldNodeSFS :=
  sound_of_den (E := { tt := tt, fs := [heldEditSFS] }) (.cons heldEditS_callable heldEditS_sound (.nil tt_ok)) mixed_ok [(2, { n := 40, its := [.t 0 (.ro (.list (.base .node))), .t 1 (.ro (.base .int)), .t 5 (.ro (.base .int))], boxes := [], ptrs := [] })] (fn := Try.f92) (by kernel_rfl) fun x => heldNodeS_den x.1 x.2
theorem heldHistory_callable : callable Try.prog 29 = true := by kernel_rfl
theorem heldHistory_den (a : GHistory) (b : Int) : denF { tt := tt, fs := [heldNotebookFS, heldNodeSFS] } [] Try.f29 heldHistoryFS.ps heldHistoryFS.rs heldHistoryFS.ex (a, b) = heldHistory a b := by kernel_rfl
theorem heldHistory_sound : Sound Try.prog heldHistoryFS :=
  sound_of_den (E := { tt := tt, fs := [heldNotebookFS, heldNodeSFS] }) (.cons heldNotebook_callable heldNotebook_sound (.cons heldNodeS_callable heldNodeS_sound (.nil tt_ok))) mixed_ok [] (fn := Try.f29) (by kernel_rfl) fun x => heldHistory_den x.1 x.2
theorem FnExactRedoEdits_callable : callable Try.prog 4 = true := by kernel_rfl
theorem FnExactRedoEdits_den (a : GHistory) (b : Int) : denF { tt := tt, fs := [szHistoryFS, sRedoEditsFS, toHistoryFS, iRedoEditsFS, eqHistoryFS, heldHistoryFS], ms := [markHistoryMS], trees := true } [] Try.f4 FnExactRedoEditsFS.ps FnExactRedoEditsFS.rs FnExactRedoEditsFS.ex (a, b) = FnExactRedoEdits a b := by kernel_rfl
theorem FnExactRedoEdits_sound : Sound Try.prog FnExactRedoEditsFS :=
  sound_of_den (E := { tt := tt, fs := [szHistoryFS, sRedoEditsFS, toHistoryFS, iRedoEditsFS, eqHistoryFS, heldHistoryFS], ms := [markHistoryMS], trees := true }) (.cons szHistory_callable szHistory_sound (.cons sRedoEdits_callable sRedoEdits_sound (.cons toHistory_callable toHistory_sound (.cons iRedoEdits_callable iRedoEdits_sound (.cons eqHistory_callable eqHistory_sound (.cons heldHistory_callable heldHistory_sound (.consM markHistory_callable markHistory_msound (.nil tt_ok)))))))) mixed_ok [] (fn := Try.f4) (by kernel_rfl) fun x => FnExactRedoEdits_den x.1 x.2
theorem sUndoEdits_callable : callable Try.prog 30 = true := by kernel_rfl
theorem sUndoEdits_den (a : GHistory) : denF { tt := tt, fs := [sIsValidHistoryFS, sL40CopyFS, sL40MoveFS] } [] Try.f30 sUndoEditsFS.ps sUndoEditsFS.rs sUndoEditsFS.ex a = sUndoEdits a := by kernel_rfl
theorem sUndoEdits_sound : Sound Try.prog sUndoEditsFS :=
  sound_of_den (E := { tt := tt, fs := [sIsValidHistoryFS, sL40CopyFS, sL40MoveFS] }) (.cons sIsValidHistory_callable sIsValidHistory_sound (.cons sL40Copy_callable sL40Copy_sound (.cons sL40Move_callable sL40Move_sound (.nil tt_ok)))) mixed_ok [] (fn := Try.f30) (by kernel_rfl) fun x => sUndoEdits_den x
theorem iUndoEdits_callable : callable Try.prog 31 = true := by kernel_rfl
theorem iUndoEdits_den (a : GHistory) : denF { tt := tt, fs := [iIsValidHistoryFS, iCopyHistoryFS, iStepFS] } [] Try.f31 iUndoEditsFS.ps iUndoEditsFS.rs iUndoEditsFS.ex a = iUndoEdits a := by kernel_rfl
theorem iUndoEdits_sound : Sound Try.prog iUndoEditsFS :=
  sound_of_den (E := { tt := tt, fs := [iIsValidHistoryFS, iCopyHistoryFS, iStepFS] }) (.cons iIsValidHistory_callable iIsValidHistory_sound (.cons iCopyHistory_callable iCopyHistory_sound (.cons iStep_callable iStep_sound (.nil tt_ok)))) mixed_ok [] (fn := Try.f31) (by kernel_rfl) fun x => iUndoEdits_den x
theorem FnExactUndoEdits_callable : callable Try.prog 5 = true := by kernel_rfl
theorem FnExactUndoEdits_den (a : GHistory) : denF { tt := tt, fs := [szHistoryFS, toHistoryFS, eqHistoryFS, heldHistoryFS, sUndoEditsFS, iUndoEditsFS], ms := [markHistoryMS], trees := true } [] Try.f5 FnExactUndoEditsFS.ps FnExactUndoEditsFS.rs FnExactUndoEditsFS.ex a = FnExactUndoEdits a := by kernel_rfl
theorem FnExactUndoEdits_sound : Sound Try.prog FnExactUndoEditsFS :=
  sound_of_den (E := { tt := tt, fs := [szHistoryFS, toHistoryFS, eqHistoryFS, heldHistoryFS, sUndoEditsFS, iUndoEditsFS], ms := [markHistoryMS], trees := true }) (.cons szHistory_callable szHistory_sound (.cons toHistory_callable toHistory_sound (.cons eqHistory_callable eqHistory_sound (.cons heldHistory_callable heldHistory_sound (.cons sUndoEdits_callable sUndoEdits_sound (.cons iUndoEdits_callable iUndoEdits_sound (.consM markHistory_callable markHistory_msound (.nil tt_ok)))))))) mixed_ok [] (fn := Try.f5) (by kernel_rfl) fun x => FnExactUndoEdits_den x
theorem sDoEdits_callable : callable Try.prog 32 = true := by kernel_rfl
theorem sDoEdits_den (a : GHistory) (b : List GEdit) : denF { tt := tt, fs := [sInverseBatchFS, sIsValidHistoryFS, sL40CopyFS, sApplyBatchFS, sL40EditsFS] } [] Try.f32 sDoEditsFS.ps sDoEditsFS.rs sDoEditsFS.ex (a, b) = sDoEdits a b := by kernel_rfl
theorem sDoEdits_sound : Sound Try.prog sDoEditsFS :=
  sound_of_den (E := { tt := tt, fs := [sInverseBatchFS, sIsValidHistoryFS, sL40CopyFS, sApplyBatchFS, sL40EditsFS] }) (.cons sInverseBatch_callable sInverseBatch_sound (.cons sIsValidHistory_callable sIsValidHistory_sound (.cons sL40Copy_callable sL40Copy_sound (.cons sApplyBatch_callable sApplyBatch_sound (.cons sL40Edits_callable sL40Edits_sound (.nil tt_ok)))))) mixed_ok [] (fn := Try.f32) (by kernel_rfl) fun x => sDoEdits_den x.1 x.2
theorem iDoEdits_callable : callable Try.prog 33 = true := by kernel_rfl
theorem iDoEdits_den (a : GHistory) (b : List GEdit) : denF { tt := tt, fs := [iInverseBatchFS, iIsValidHistoryFS, iCopyHistoryFS, iStepFS, iCopyEditsFS] } [] Try.f33 iDoEditsFS.ps iDoEditsFS.rs iDoEditsFS.ex (a, b) = iDoEdits a b := by kernel_rfl
theorem iDoEdits_sound : Sound Try.prog iDoEditsFS :=
  sound_of_den (E := { tt := tt, fs := [iInverseBatchFS, iIsValidHistoryFS, iCopyHistoryFS, iStepFS, iCopyEditsFS] }) (.cons iInverseBatch_callable iInverseBatch_sound (.cons iIsValidHistory_callable iIsValidHistory_sound (.cons iCopyHistory_callable iCopyHistory_sound (.cons iStep_callable iStep_sound (.cons iCopyEdits_callable iCopyEdits_sound (.nil tt_ok)))))) mixed_ok [] (fn := Try.f33) (by kernel_rfl) fun x => iDoEdits_den x.1 x.2
theorem FnExactDoEdits_callable : callable Try.prog 6 = true := by kernel_rfl
theorem FnExactDoEdits_den (a : GHistory) (b : List GEdit) : denF { tt := tt, fs := [szEditSFS, toEditSFS, eqEditSFS, szHistoryFS, toHistoryFS, eqHistoryFS, heldHistoryFS, sDoEditsFS, iDoEditsFS], ms := [markEditSMS, markHistoryMS], trees := true } [] Try.f6 FnExactDoEditsFS.ps FnExactDoEditsFS.rs FnExactDoEditsFS.ex (a, b) = FnExactDoEdits a b := by kernel_rfl
theorem FnExactDoEdits_sound : Sound Try.prog FnExactDoEditsFS :=
  sound_of_den (E := { tt := tt, fs := [szEditSFS, toEditSFS, eqEditSFS, szHistoryFS, toHistoryFS, eqHistoryFS, heldHistoryFS, sDoEditsFS, iDoEditsFS], ms := [markEditSMS, markHistoryMS], trees := true }) (.cons szEditS_callable szEditS_sound (.cons toEditS_callable toEditS_sound (.cons eqEditS_callable eqEditS_sound (.cons szHistory_callable szHistory_sound (.cons toHistory_callable toHistory_sound (.cons eqHistory_callable eqHistory_sound (.cons heldHistory_callable heldHistory_sound (.cons sDoEdits_callable sDoEdits_sound (.cons iDoEdits_callable iDoEdits_sound (.consM markEditS_callable markEditS_msound (.consM markHistory_callable markHistory_msound (.nil tt_ok)))))))))))) mixed_ok [] (fn := Try.f6) (by kernel_rfl) fun x => FnExactDoEdits_den x.1 x.2
end Go.Proofs.Ytmfhbmfadapdbaa
