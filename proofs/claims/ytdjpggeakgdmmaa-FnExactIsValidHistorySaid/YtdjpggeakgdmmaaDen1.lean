/- The functions compute their models, by gen.py. -/
import Derived.Test.YtdjpggeakgdmmaaDen0
namespace Go.Proofs.Ytdjpggeakgdmmaa
open Go.Abs Go.Proofs
set_option maxRecDepth 100000
theorem iIsWord_callable : callable Try.prog 172 = true := by kernel_rfl
theorem iIsWord_den (a : Str) : denF { tt := tt, fs := [iWithinFS] } [(2, { n := 42, its := [.t 0 (.ro (.base .str)), .t 3 (.ro (.base .int))], boxes := [], ptrs := [] })] Try.f172 iIsWordFS.ps iIsWordFS.rs iIsWordFS.ex a = iIsWord a := by kernel_rfl
theorem iIsWord_sound : Sound Try.prog iIsWordFS :=
  sound_of_den (E := { tt := tt, fs := [iWithinFS] }) (.cons iWithin_callable iWithin_sound (.nil tt_ok)) mixed_ok [(2, { n := 42, its := [.t 0 (.ro (.base .str)), .t 3 (.ro (.base .int))], boxes := [], ptrs := [] })] (fn := Try.f172) (by kernel_rfl) fun x => iIsWord_den x
theorem iArgumentCount_callable : callable Try.prog 188 = true := by kernel_rfl
theorem iArgumentCount_den (a : Str) : denF { tt := tt, fs := [] } [] Try.f188 iArgumentCountFS.ps iArgumentCountFS.rs iArgumentCountFS.ex a = iArgumentCount a := by kernel_rfl
theorem iArgumentCount_sound : Sound Try.prog iArgumentCountFS :=
  sound_of_den (E := { tt := tt, fs := [] }) (.nil tt_ok) mixed_ok [] (fn := Try.f188) (by kernel_rfl) fun x => iArgumentCount_den x
theorem iIsReserved_callable : callable Try.prog 173 = true := by kernel_rfl
theorem iIsReserved_den (a : Str) : denF { tt := tt, fs := [iArgumentCountFS] } [] Try.f173 iIsReservedFS.ps iIsReservedFS.rs iIsReservedFS.ex a = iIsReserved a := by kernel_rfl
theorem iIsReserved_sound : Sound Try.prog iIsReservedFS :=
  sound_of_den (E := { tt := tt, fs := [iArgumentCountFS] }) (.cons iArgumentCount_callable iArgumentCount_sound (.nil tt_ok)) mixed_ok [] (fn := Try.f173) (by kernel_rfl) fun x => iIsReserved_den x
theorem iIsValidName_callable : callable Try.prog 161 = true := by kernel_rfl
theorem iIsValidName_den (a : Str) : denF { tt := tt, fs := [iIsWordFS, iIsReservedFS] } [] Try.f161 iIsValidNameFS.ps iIsValidNameFS.rs iIsValidNameFS.ex a = iIsValidName a := by kernel_rfl
theorem iIsValidName_sound : Sound Try.prog iIsValidNameFS :=
  sound_of_den (E := { tt := tt, fs := [iIsWordFS, iIsReservedFS] }) (.cons iIsWord_callable iIsWord_sound (.cons iIsReserved_callable iIsReserved_sound (.nil tt_ok))) mixed_ok [] (fn := Try.f161) (by kernel_rfl) fun x => iIsValidName_den x
theorem iIsValidCell_callable : callable Try.prog 144 = true := by kernel_rfl
theorem iIsValidCell_den (a : GCell) : denF { tt := tt, fs := [iWithinFS, iIsPrintableFS, iIsValidNameFS] } [] Try.f144 iIsValidCellFS.ps iIsValidCellFS.rs iIsValidCellFS.ex a = iIsValidCell a := by kernel_rfl
theorem iIsValidCell_sound : Sound Try.prog iIsValidCellFS :=
  sound_of_den (E := { tt := tt, fs := [iWithinFS, iIsPrintableFS, iIsValidNameFS] }) (.cons iWithin_callable iWithin_sound (.cons iIsPrintable_callable iIsPrintable_sound (.cons iIsValidName_callable iIsValidName_sound (.nil tt_ok)))) mixed_ok [] (fn := Try.f144) (by kernel_rfl) fun x => iIsValidCell_den x
theorem iIsValidNotebook_callable : callable Try.prog 103 = true := by kernel_rfl
theorem iIsValidNotebook_den (a : GNotebook) : denF { tt := tt, fs := [iCellIndexFS, iIsValidCellFS] } [(2, { n := 29, its := [.b 1 0 (.ro (.list (.base .cell))), .t 6 (.ro (.list (.base .cell))), .t 7 (.ro (.base .int)), .t 8 (.ro (.base .int))], boxes := [(1, 1)], ptrs := [(1, 1, 0)] })] Try.f103 iIsValidNotebookFS.ps iIsValidNotebookFS.rs iIsValidNotebookFS.ex a = iIsValidNotebook a := by kernel_rfl
theorem iIsValidNotebook_sound : Sound Try.prog iIsValidNotebookFS :=
  sound_of_den (E := { tt := tt, fs := [iCellIndexFS, iIsValidCellFS] }) (.cons iCellIndex_callable iCellIndex_sound (.cons iIsValidCell_callable iIsValidCell_sound (.nil tt_ok))) mixed_ok [(2, { n := 29, its := [.b 1 0 (.ro (.list (.base .cell))), .t 6 (.ro (.list (.base .cell))), .t 7 (.ro (.base .int)), .t 8 (.ro (.base .int))], boxes := [(1, 1)], ptrs := [(1, 1, 0)] })] (fn := Try.f103) (by kernel_rfl) fun x => iIsValidNotebook_den x
theorem iIsValidHistory_callable : callable Try.prog 47 = true := by kernel_rfl
theorem iIsValidHistory_den (a : GHistory) : denF { tt := tt, fs := [iIsValidNotebookFS, iWithinFS] } [(4, { n := 49, its := [.t 36 (.ro (.list (.base .node))), .t 37 (.ro (.base .int)), .t 38 (.ro (.base .int))], boxes := [], ptrs := [] })] Try.f47 iIsValidHistoryFS.ps iIsValidHistoryFS.rs iIsValidHistoryFS.ex a = iIsValidHistory a := by kernel_rfl
theorem iIsValidHistory_sound : Sound Try.prog iIsValidHistoryFS :=
  sound_of_den (E := { tt := tt, fs := [iIsValidNotebookFS, iWithinFS] }) (.cons iIsValidNotebook_callable iIsValidNotebook_sound (.cons iWithin_callable iWithin_sound (.nil tt_ok))) mixed_ok [(4, { n := 49, its := [.t 36 (.ro (.list (.base .node))), .t 37 (.ro (.base .int)), .t 38 (.ro (.base .int))], boxes := [], ptrs := [] })] (fn := Try.f47) (by kernel_rfl) fun x => iIsValidHistory_den x
theorem eqCell_callable : callable Try.prog 127 = true := by kernel_rfl
theorem eqCell_den (a : GCell) (b : GCell) : denF { tt := tt, fs := [] } [] Try.f127 eqCellFS.ps eqCellFS.rs eqCellFS.ex (a, b) = eqCell a b := by kernel_rfl
theorem eqCell_sound : Sound Try.prog eqCellFS :=
  sound_of_den (E := { tt := tt, fs := [] }) (.nil tt_ok) mixed_ok [] (fn := Try.f127) (by kernel_rfl) fun x => eqCell_den x.1 x.2
theorem eqCellS_callable : callable Try.prog 78 = true := by kernel_rfl
theorem eqCellS_den (a : List GCell) (b : List GCell) : denF { tt := tt, fs := [eqCellFS] } [(4, { n := 27, its := [.t 0 (.ro (.list (.base .cell))), .t 1 (.ro (.list (.base .cell))), .t 5 (.ro (.base .int))], boxes := [], ptrs := [] })] Try.f78 eqCellSFS.ps eqCellSFS.rs eqCellSFS.ex (a, b) = eqCellS a b := by kernel_rfl
theorem eqCellS_sound : Sound Try.prog eqCellSFS :=
  sound_of_den (E := { tt := tt, fs := [eqCellFS] }) (.cons eqCell_callable eqCell_sound (.nil tt_ok)) mixed_ok [(4, { n := 27, its := [.t 0 (.ro (.list (.base .cell))), .t 1 (.ro (.list (.base .cell))), .t 5 (.ro (.base .int))], boxes := [], ptrs := [] })] (fn := Try.f78) (by kernel_rfl) fun x => eqCellS_den x.1 x.2
theorem eqNotebook_callable : callable Try.prog 20 = true := by kernel_rfl
theorem eqNotebook_den (a : GNotebook) (b : GNotebook) : denF { tt := tt, fs := [eqCellSFS] } [] Try.f20 eqNotebookFS.ps eqNotebookFS.rs eqNotebookFS.ex (a, b) = eqNotebook a b := by kernel_rfl
theorem eqNotebook_sound : Sound Try.prog eqNotebookFS :=
  sound_of_den (E := { tt := tt, fs := [eqCellSFS] }) (.cons eqCellS_callable eqCellS_sound (.nil tt_ok)) mixed_ok [] (fn := Try.f20) (by kernel_rfl) fun x => eqNotebook_den x.1 x.2
theorem eqEdit_callable : callable Try.prog 112 = true := by kernel_rfl
theorem eqEdit_den (a : GEdit) (b : GEdit) : denF { tt := tt, fs := [eqCellFS] } [] Try.f112 eqEditFS.ps eqEditFS.rs eqEditFS.ex (a, b) = eqEdit a b := by kernel_rfl
theorem eqEdit_sound : Sound Try.prog eqEditFS :=
  sound_of_den (E := { tt := tt, fs := [eqCellFS] }) (.cons eqCell_callable eqCell_sound (.nil tt_ok)) mixed_ok [] (fn := Try.f112) (by kernel_rfl) fun x => eqEdit_den x.1 x.2
theorem eqEditS_callable : callable Try.prog 73 = true := by kernel_rfl
theorem eqEditS_den (a : List GEdit) (b : List GEdit) : denF { tt := tt, fs := [eqEditFS] } [(4, { n := 27, its := [.t 0 (.ro (.list (.base .edit))), .t 1 (.ro (.list (.base .edit))), .t 5 (.ro (.base .int))], boxes := [], ptrs := [] })] Try.f73 eqEditSFS.ps eqEditSFS.rs eqEditSFS.ex (a, b) = eqEditS a b := by kernel_rfl
theorem eqEditS_sound : Sound Try.prog eqEditSFS :=
  sound_of_den (E := { tt := tt, fs := [eqEditFS] }) (.cons eqEdit_callable eqEdit_sound (.nil tt_ok)) mixed_ok [(4, { n := 27, its := [.t 0 (.ro (.list (.base .edit))), .t 1 (.ro (.list (.base .edit))), .t 5 (.ro (.base .int))], boxes := [], ptrs := [] })] (fn := Try.f73) (by kernel_rfl) fun x => eqEditS_den x.1 x.2
theorem eqNode_callable : callable Try.prog 145 = true := by kernel_rfl
theorem eqNode_den (a : GNode) (b : GNode) : denF { tt := tt, fs := [eqEditSFS] } [] Try.f145 eqNodeFS.ps eqNodeFS.rs eqNodeFS.ex (a, b) = eqNode a b := by kernel_rfl
theorem eqNode_sound : Sound Try.prog eqNodeFS :=
  sound_of_den (E := { tt := tt, fs := [eqEditSFS] }) (.cons eqEditS_callable eqEditS_sound (.nil tt_ok)) mixed_ok [] (fn := Try.f145) (by kernel_rfl) fun x => eqNode_den x.1 x.2
theorem eqNodeS_callable : callable Try.prog 105 = true := by kernel_rfl
theorem eqNodeS_den (a : List GNode) (b : List GNode) : denF { tt := tt, fs := [eqNodeFS] } [(4, { n := 27, its := [.t 0 (.ro (.list (.base .node))), .t 1 (.ro (.list (.base .node))), .t 5 (.ro (.base .int))], boxes := [], ptrs := [] })] Try.f105 eqNodeSFS.ps eqNodeSFS.rs eqNodeSFS.ex (a, b) = eqNodeS a b := by kernel_rfl
theorem eqNodeS_sound : Sound Try.prog eqNodeSFS :=
  sound_of_den (E := { tt := tt, fs := [eqNodeFS] }) (.cons eqNode_callable eqNode_sound (.nil tt_ok)) mixed_ok [(4, { n := 27, its := [.t 0 (.ro (.list (.base .node))), .t 1 (.ro (.list (.base .node))), .t 5 (.ro (.base .int))], boxes := [], ptrs := [] })] (fn := Try.f105) (by kernel_rfl) fun x => eqNodeS_den x.1 x.2
theorem eqHistory_callable : callable Try.prog 48 = true := by kernel_rfl
theorem eqHistory_den (a : GHistory) (b : GHistory) : denF { tt := tt, fs := [eqNotebookFS, eqNodeSFS] } [] Try.f48 eqHistoryFS.ps eqHistoryFS.rs eqHistoryFS.ex (a, b) = eqHistory a b := by kernel_rfl
theorem eqHistory_sound : Sound Try.prog eqHistoryFS :=
  sound_of_den (E := { tt := tt, fs := [eqNotebookFS, eqNodeSFS] }) (.cons eqNotebook_callable eqNotebook_sound (.cons eqNodeS_callable eqNodeS_sound (.nil tt_ok))) mixed_ok [] (fn := Try.f48) (by kernel_rfl) fun x => eqHistory_den x.1 x.2
theorem FnExactIsValidHistory_callable : callable Try.prog 7 = true := by kernel_rfl
theorem FnExactIsValidHistory_den (a : GHistory) : denF { tt := tt, fs := [szHistoryFS, sIsValidHistoryFS, toHistoryFS, iIsValidHistoryFS, eqHistoryFS] } [] Try.f7 FnExactIsValidHistoryFS.ps FnExactIsValidHistoryFS.rs FnExactIsValidHistoryFS.ex a = FnExactIsValidHistory a := by kernel_rfl
theorem FnExactIsValidHistory_sound : Sound Try.prog FnExactIsValidHistoryFS :=
  sound_of_den (E := { tt := tt, fs := [szHistoryFS, sIsValidHistoryFS, toHistoryFS, iIsValidHistoryFS, eqHistoryFS] }) (.cons szHistory_callable szHistory_sound (.cons sIsValidHistory_callable sIsValidHistory_sound (.cons toHistory_callable toHistory_sound (.cons iIsValidHistory_callable iIsValidHistory_sound (.cons eqHistory_callable eqHistory_sound (.nil tt_ok)))))) mixed_ok [] (fn := Try.f7) (by kernel_rfl) fun x => FnExactIsValidHistory_den x
theorem szIntS_callable : callable Try.prog 106 = true := by kernel_rfl
theorem szIntS_den (a : List Int) (b : Int) : denF { tt := tt, fs := [] } [] Try.f106 szIntSFS.ps szIntSFS.rs szIntSFS.ex (a, b) = szIntS a b := by kernel_rfl
theorem szIntS_sound : Sound Try.prog szIntSFS :=
  sound_of_den (E := { tt := tt, fs := [] }) (.nil tt_ok) mixed_ok [] (fn := Try.f106) (by kernel_rfl) fun x => szIntS_den x.1 x.2
theorem szStringS_callable : callable Try.prog 175 = true := by kernel_rfl
theorem szStringS_den (a : List Str) (b : Int) : denF { tt := tt, fs := [] } [(5, { n := 28, its := [.t 0 (.ro (.list (.base .str))), .t 1 (.ro (.base .int)), .t 5 (.ro (.base .int))], boxes := [], ptrs := [] })] Try.f175 szStringSFS.ps szStringSFS.rs szStringSFS.ex (a, b) = szStringS a b := by kernel_rfl
theorem szStringS_sound : Sound Try.prog szStringSFS :=
  sound_of_den (E := { tt := tt, fs := [] }) (.nil tt_ok) mixed_ok [(5, { n := 28, its := [.t 0 (.ro (.list (.base .str))), .t 1 (.ro (.base .int)), .t 5 (.ro (.base .int))], boxes := [], ptrs := [] })] (fn := Try.f175) (by kernel_rfl) fun x => szStringS_den x.1 x.2
theorem szOriginS_callable : callable Try.prog 192 = true := by kernel_rfl
theorem szOriginS_den (a : List GOrigin) (b : Int) : denF { tt := tt, fs := [] } [] Try.f192 szOriginSFS.ps szOriginSFS.rs szOriginSFS.ex (a, b) = szOriginS a b := by kernel_rfl
theorem szOriginS_sound : Sound Try.prog szOriginSFS :=
  sound_of_den (E := { tt := tt, fs := [] }) (.nil tt_ok) mixed_ok [] (fn := Try.f192) (by kernel_rfl) fun x => szOriginS_den x.1 x.2
theorem szRow_callable : callable Try.prog 189 = true := by kernel_rfl
theorem szRow_den (a : GRow) (b : Int) : denF { tt := tt, fs := [szIntSFS, szOriginSFS] } [] Try.f189 szRowFS.ps szRowFS.rs szRowFS.ex (a, b) = szRow a b := by kernel_rfl
theorem szRow_sound : Sound Try.prog szRowFS :=
  sound_of_den (E := { tt := tt, fs := [szIntSFS, szOriginSFS] }) (.cons szIntS_callable szIntS_sound (.cons szOriginS_callable szOriginS_sound (.nil tt_ok))) mixed_ok [] (fn := Try.f189) (by kernel_rfl) fun x => szRow_den x.1 x.2
theorem szRowS_callable : callable Try.prog 176 = true := by kernel_rfl
theorem szRowS_den (a : List GRow) (b : Int) : denF { tt := tt, fs := [szRowFS] } [(5, { n := 27, its := [.t 0 (.ro (.list (.base .row))), .t 1 (.ro (.base .int)), .t 5 (.ro (.base .int))], boxes := [], ptrs := [] })] Try.f176 szRowSFS.ps szRowSFS.rs szRowSFS.ex (a, b) = szRowS a b := by kernel_rfl
theorem szRowS_sound : Sound Try.prog szRowSFS :=
  sound_of_den (E := { tt := tt, fs := [szRowFS] }) (.cons szRow_callable szRow_sound (.nil tt_ok)) mixed_ok [(5, { n := 27, its := [.t 0 (.ro (.list (.base .row))), .t 1 (.ro (.base .int)), .t 5 (.ro (.base .int))], boxes := [], ptrs := [] })] (fn := Try.f176) (by kernel_rfl) fun x => szRowS_den x.1 x.2
theorem szValue_callable : callable Try.prog 162 = true := by kernel_rfl
theorem szValueS_callable : callable Try.prog 174 = true := by kernel_rfl
theorem szValue_den (rszValue : GVal → Int → Option (Int)) (rszValueS : (List GVal) → Int → Option (Int)) (a : GVal) (b : Int) : denF { tt := tt, fs := [szStringSFS, szRowSFS, { fid := 162, ps := [⟨true, .base .val⟩, ⟨false, .base .int⟩], rs := [⟨false, .base .int⟩], ex := true, fn := fun x => rszValue x.1 x.2 }, { fid := 174, ps := [⟨false, .list (.base .val)⟩, ⟨false, .base .int⟩], rs := [⟨false, .base .int⟩], ex := true, fn := fun x => rszValueS x.1 x.2 }] } [] Try.f162 szValueFS.ps szValueFS.rs szValueFS.ex (a, b) = szValueB rszValue rszValueS a b := by kernel_rfl
theorem szValueS_den (rszValue : GVal → Int → Option (Int)) (rszValueS : (List GVal) → Int → Option (Int)) (a : List GVal) (b : Int) : denF { tt := tt, fs := [szStringSFS, szRowSFS, { fid := 162, ps := [⟨true, .base .val⟩, ⟨false, .base .int⟩], rs := [⟨false, .base .int⟩], ex := true, fn := fun x => rszValue x.1 x.2 }, { fid := 174, ps := [⟨false, .list (.base .val)⟩, ⟨false, .base .int⟩], rs := [⟨false, .base .int⟩], ex := true, fn := fun x => rszValueS x.1 x.2 }] } [(5, { n := 27, its := [.t 0 (.ro (.list (.base .val))), .t 1 (.ro (.base .int)), .t 5 (.ro (.base .int))], boxes := [], ptrs := [] })] Try.f174 szValueSFS.ps szValueSFS.rs szValueSFS.ex (a, b) = szValueSB rszValue rszValueS a b := by kernel_rfl
theorem szValueG_sound : ∀ n, Sound Try.prog (szValueFSN n) ∧ Sound Try.prog (szValueSFSN n)
  | 0 => ⟨(fun w S args x y h => by cases h), (fun w S args x y h => by cases h)⟩
  | n + 1 => by
    have ih := szValueG_sound n
    exact ⟨sound_of_den (s := szValueFSN (n + 1)) (E := { tt := tt, fs := [szStringSFS, szRowSFS, szValueFSN n, szValueSFSN n] }) (.cons szStringS_callable szStringS_sound (.cons szRowS_callable szRowS_sound (.cons szValue_callable ih.1 (.cons szValueS_callable ih.2 (.nil tt_ok))))) mixed_ok [] (fn := Try.f162) (by kernel_rfl) fun x => szValue_den _ _ x.1 x.2, sound_of_den (s := szValueSFSN (n + 1)) (E := { tt := tt, fs := [szStringSFS, szRowSFS, szValueFSN n, szValueSFSN n] }) (.cons szStringS_callable szStringS_sound (.cons szRowS_callable szRowS_sound (.cons szValue_callable ih.1 (.cons szValueS_callable ih.2 (.nil tt_ok))))) mixed_ok [(5, { n := 27, its := [.t 0 (.ro (.list (.base .val))), .t 1 (.ro (.base .int)), .t 5 (.ro (.base .int))], boxes := [], ptrs := [] })] (fn := Try.f174) (by kernel_rfl) fun x => szValueS_den _ _ x.1 x.2⟩
theorem szValue_sound : Sound Try.prog szValueFS := fun w S args x y h => (szValueG_sound (siz (α := GVal) x.1 + 1)).1 w S args x y h
theorem szValueS_sound : Sound Try.prog szValueSFS := fun w S args x y h => (szValueG_sound (siz (α := List GVal) x.1 + 1)).2 w S args x y h
theorem szRead_callable : callable Try.prog 146 = true := by kernel_rfl
theorem szRead_den (a : GRead) (b : Int) : denF { tt := tt, fs := [szValueFS] } [] Try.f146 szReadFS.ps szReadFS.rs szReadFS.ex (a, b) = szRead a b := by kernel_rfl
theorem szRead_sound : Sound Try.prog szReadFS :=
  sound_of_den (E := { tt := tt, fs := [szValueFS] }) (.cons szValue_callable szValue_sound (.nil tt_ok)) mixed_ok [] (fn := Try.f146) (by kernel_rfl) fun x => szRead_den x.1 x.2
theorem szReadS_callable : callable Try.prog 108 = true := by kernel_rfl
theorem szReadS_den (a : List GRead) (b : Int) : denF { tt := tt, fs := [szReadFS] } [(5, { n := 27, its := [.t 0 (.ro (.list (.base .read))), .t 1 (.ro (.base .int)), .t 5 (.ro (.base .int))], boxes := [], ptrs := [] })] Try.f108 szReadSFS.ps szReadSFS.rs szReadSFS.ex (a, b) = szReadS a b := by kernel_rfl
theorem szReadS_sound : Sound Try.prog szReadSFS :=
  sound_of_den (E := { tt := tt, fs := [szReadFS] }) (.cons szRead_callable szRead_sound (.nil tt_ok)) mixed_ok [(5, { n := 27, its := [.t 0 (.ro (.list (.base .read))), .t 1 (.ro (.base .int)), .t 5 (.ro (.base .int))], boxes := [], ptrs := [] })] (fn := Try.f108) (by kernel_rfl) fun x => szReadS_den x.1 x.2
theorem szOp_callable : callable Try.prog 49 = true := by kernel_rfl
theorem szOp_den (a : GOp) (b : Int) : denF { tt := tt, fs := [szIntSFS, szEditFS, szReadSFS] } [] Try.f49 szOpFS.ps szOpFS.rs szOpFS.ex (a, b) = szOp a b := by kernel_rfl
theorem szOp_sound : Sound Try.prog szOpFS :=
  sound_of_den (E := { tt := tt, fs := [szIntSFS, szEditFS, szReadSFS] }) (.cons szIntS_callable szIntS_sound (.cons szEdit_callable szEdit_sound (.cons szReadS_callable szReadS_sound (.nil tt_ok)))) mixed_ok [] (fn := Try.f49) (by kernel_rfl) fun x => szOp_den x.1 x.2
theorem sOpBefore_callable : callable Try.prog 50 = true := by kernel_rfl
theorem sOpBefore_den (a : GOp) (b : GOp) : denF { tt := tt, fs := [] } [] Try.f50 sOpBeforeFS.ps sOpBeforeFS.rs sOpBeforeFS.ex (a, b) = sOpBefore a b := by kernel_rfl
theorem sOpBefore_sound : Sound Try.prog sOpBeforeFS :=
  sound_of_den (E := { tt := tt, fs := [] }) (.nil tt_ok) mixed_ok [] (fn := Try.f50) (by kernel_rfl) fun x => sOpBefore_den x.1 x.2
theorem toIntS_callable : callable Try.prog 109 = true := by kernel_rfl
theorem toIntS_den (a : List Int) : denF { tt := tt, fs := [] } [(3, { n := 22, its := [.t 0 (.ro (.list (.base .int))), .t 3 (.own (.base .int) true true 0), .t 4 (.ro (.base .int))], boxes := [], ptrs := [] })] Try.f109 toIntSFS.ps toIntSFS.rs toIntSFS.ex a = toIntS a := by kernel_rfl
theorem toIntS_sound : Sound Try.prog toIntSFS :=
  sound_of_den (E := { tt := tt, fs := [] }) (.nil tt_ok) mixed_ok [(3, { n := 22, its := [.t 0 (.ro (.list (.base .int))), .t 3 (.own (.base .int) true true 0), .t 4 (.ro (.base .int))], boxes := [], ptrs := [] })] (fn := Try.f109) (by kernel_rfl) fun x => toIntS_den x
theorem toStringS_callable : callable Try.prog 178 = true := by kernel_rfl
theorem toStringS_den (a : List Str) : denF { tt := tt, fs := [] } [(3, { n := 22, its := [.t 0 (.ro (.list (.base .str))), .t 3 (.own (.base .str) true true 0), .t 4 (.ro (.base .int))], boxes := [], ptrs := [] })] Try.f178 toStringSFS.ps toStringSFS.rs toStringSFS.ex a = toStringS a := by kernel_rfl
theorem toStringS_sound : Sound Try.prog toStringSFS :=
  sound_of_den (E := { tt := tt, fs := [] }) (.nil tt_ok) mixed_ok [(3, { n := 22, its := [.t 0 (.ro (.list (.base .str))), .t 3 (.own (.base .str) true true 0), .t 4 (.ro (.base .int))], boxes := [], ptrs := [] })] (fn := Try.f178) (by kernel_rfl) fun x => toStringS_den x
theorem toOrigin_callable : callable Try.prog 195 = true := by kernel_rfl
theorem toOrigin_den (a : GOrigin) : denF { tt := tt, fs := [] } [] Try.f195 toOriginFS.ps toOriginFS.rs toOriginFS.ex a = toOrigin a := by kernel_rfl
theorem toOrigin_sound : Sound Try.prog toOriginFS :=
  sound_of_den (E := { tt := tt, fs := [] }) (.nil tt_ok) mixed_ok [] (fn := Try.f195) (by kernel_rfl) fun x => toOrigin_den x
end Go.Proofs.Ytdjpggeakgdmmaa
