/- The functions compute their models, by gen.py. -/
import Derived.Test.YtopcobafmnpmkaaDen0
namespace Go.Proofs.Ytopcobafmnpmkaa
open Go.Abs Go.Proofs
set_option maxRecDepth 100000
theorem iTapeOf_callable : callable Try.prog 29 = true := by kernel_rfl
theorem iTapeOf_den (a : List GTape) (b : Int) (c : Int) : denF { tt := tt, fs := [iCopyReadsFS, iTapeIndexFS] } [] Try.f29 iTapeOfFS.ps iTapeOfFS.rs iTapeOfFS.ex (a, b, c) = iTapeOf a b c := by kernel_rfl
theorem iTapeOf_sound : Sound Try.prog iTapeOfFS :=
  sound_of_den (E := { tt := tt, fs := [iCopyReadsFS, iTapeIndexFS] }) (.cons iCopyReads_callable iCopyReads_sound (.cons iTapeIndex_callable iTapeIndex_sound (.nil tt_ok))) mixed_ok [] (fn := Try.f29) (by kernel_rfl) fun x => iTapeOf_den x.1 x.2.1 x.2.2
theorem iRenameTapes_callable : callable Try.prog 9 = true := by kernel_rfl
theorem iRenameTapes_den (a : List GTape) (b : GNotebook) (c : GNotebook) : denF { tt := tt, fs := [iCopyTapesFS, iChangedVersionsFS, iVersionInFS, iPutTapeFS, iTapeOfFS] } [(8, { n := 61, its := [.b 4 0 (.ro (.list (.base .cell))), .b 5 0 (.ro (.list (.base .cell))), .t 7 (.ro (.list (.base .tape))), .t 9 (.ro (.base .int)), .t 10 (.ro (.base .int)), .t 11 (.own (.base .tape) false true 0), .t 18 (.own (.base .int) true true 1), .t 19 (.ro (.base .int)), .t 20 (.ro (.base .int)), .t 28 (.ro (.list (.base .tape))), .t 29 (.ro (.base .int)), .t 30 (.ro (.base .int))], boxes := [(4, 1), (5, 1)], ptrs := [(4, 4, 0), (5, 5, 0)] }), (3, { n := 61, its := [.b 4 0 (.ro (.list (.base .cell))), .b 5 0 (.ro (.list (.base .cell))), .t 7 (.own (.base .tape) true true 0), .t 18 (.own (.base .int) true true 1), .t 19 (.ro (.base .int)), .t 20 (.ro (.base .int))], boxes := [(4, 1), (5, 1)], ptrs := [(4, 4, 0), (5, 5, 0)] })] Try.f9 iRenameTapesFS.ps iRenameTapesFS.rs iRenameTapesFS.ex (a, b, c) = iRenameTapes a b c := by kernel_rfl
theorem iRenameTapes_sound : Sound Try.prog iRenameTapesFS :=
  sound_of_den (E := { tt := tt, fs := [iCopyTapesFS, iChangedVersionsFS, iVersionInFS, iPutTapeFS, iTapeOfFS] }) (.cons iCopyTapes_callable iCopyTapes_sound (.cons iChangedVersions_callable iChangedVersions_sound (.cons iVersionIn_callable iVersionIn_sound (.cons iPutTape_callable iPutTape_sound (.cons iTapeOf_callable iTapeOf_sound (.nil tt_ok)))))) mixed_ok [(8, { n := 61, its := [.b 4 0 (.ro (.list (.base .cell))), .b 5 0 (.ro (.list (.base .cell))), .t 7 (.ro (.list (.base .tape))), .t 9 (.ro (.base .int)), .t 10 (.ro (.base .int)), .t 11 (.own (.base .tape) false true 0), .t 18 (.own (.base .int) true true 1), .t 19 (.ro (.base .int)), .t 20 (.ro (.base .int)), .t 28 (.ro (.list (.base .tape))), .t 29 (.ro (.base .int)), .t 30 (.ro (.base .int))], boxes := [(4, 1), (5, 1)], ptrs := [(4, 4, 0), (5, 5, 0)] }), (3, { n := 61, its := [.b 4 0 (.ro (.list (.base .cell))), .b 5 0 (.ro (.list (.base .cell))), .t 7 (.own (.base .tape) true true 0), .t 18 (.own (.base .int) true true 1), .t 19 (.ro (.base .int)), .t 20 (.ro (.base .int))], boxes := [(4, 1), (5, 1)], ptrs := [(4, 4, 0), (5, 5, 0)] })] (fn := Try.f9) (by kernel_rfl) fun x => iRenameTapes_den x.1 x.2.1 x.2.2
theorem eqStringS_callable : callable Try.prog 85 = true := by kernel_rfl
theorem eqStringS_den (a : List Str) (b : List Str) : denF { tt := tt, fs := [] } [(4, { n := 26, its := [.t 0 (.ro (.list (.base .str))), .t 1 (.ro (.list (.base .str))), .t 5 (.ro (.base .int))], boxes := [], ptrs := [] })] Try.f85 eqStringSFS.ps eqStringSFS.rs eqStringSFS.ex (a, b) = eqStringS a b := by kernel_rfl
theorem eqStringS_sound : Sound Try.prog eqStringSFS :=
  sound_of_den (E := { tt := tt, fs := [] }) (.nil tt_ok) mixed_ok [(4, { n := 26, its := [.t 0 (.ro (.list (.base .str))), .t 1 (.ro (.list (.base .str))), .t 5 (.ro (.base .int))], boxes := [], ptrs := [] })] (fn := Try.f85) (by kernel_rfl) fun x => eqStringS_den x.1 x.2
theorem eqIntS_callable : callable Try.prog 94 = true := by kernel_rfl
theorem eqIntS_den (a : List Int) (b : List Int) : denF { tt := tt, fs := [] } [(4, { n := 26, its := [.t 0 (.ro (.list (.base .int))), .t 1 (.ro (.list (.base .int))), .t 5 (.ro (.base .int))], boxes := [], ptrs := [] })] Try.f94 eqIntSFS.ps eqIntSFS.rs eqIntSFS.ex (a, b) = eqIntS a b := by kernel_rfl
theorem eqIntS_sound : Sound Try.prog eqIntSFS :=
  sound_of_den (E := { tt := tt, fs := [] }) (.nil tt_ok) mixed_ok [(4, { n := 26, its := [.t 0 (.ro (.list (.base .int))), .t 1 (.ro (.list (.base .int))), .t 5 (.ro (.base .int))], boxes := [], ptrs := [] })] (fn := Try.f94) (by kernel_rfl) fun x => eqIntS_den x.1 x.2
theorem eqOrigin_callable : callable Try.prog 97 = true := by kernel_rfl
theorem eqOrigin_den (a : GOrigin) (b : GOrigin) : denF { tt := tt, fs := [] } [] Try.f97 eqOriginFS.ps eqOriginFS.rs eqOriginFS.ex (a, b) = eqOrigin a b := by kernel_rfl
theorem eqOrigin_sound : Sound Try.prog eqOriginFS :=
  sound_of_den (E := { tt := tt, fs := [] }) (.nil tt_ok) mixed_ok [] (fn := Try.f97) (by kernel_rfl) fun x => eqOrigin_den x.1 x.2
theorem eqOriginS_callable : callable Try.prog 95 = true := by kernel_rfl
theorem eqOriginS_den (a : List GOrigin) (b : List GOrigin) : denF { tt := tt, fs := [eqOriginFS] } [(4, { n := 27, its := [.t 0 (.ro (.list (.base .origin))), .t 1 (.ro (.list (.base .origin))), .t 5 (.ro (.base .int))], boxes := [], ptrs := [] })] Try.f95 eqOriginSFS.ps eqOriginSFS.rs eqOriginSFS.ex (a, b) = eqOriginS a b := by kernel_rfl
theorem eqOriginS_sound : Sound Try.prog eqOriginSFS :=
  sound_of_den (E := { tt := tt, fs := [eqOriginFS] }) (.cons eqOrigin_callable eqOrigin_sound (.nil tt_ok)) mixed_ok [(4, { n := 27, its := [.t 0 (.ro (.list (.base .origin))), .t 1 (.ro (.list (.base .origin))), .t 5 (.ro (.base .int))], boxes := [], ptrs := [] })] (fn := Try.f95) (by kernel_rfl) fun x => eqOriginS_den x.1 x.2
theorem eqRow_callable : callable Try.prog 89 = true := by kernel_rfl
theorem eqRow_den (a : GRow) (b : GRow) : denF { tt := tt, fs := [eqIntSFS, eqOriginSFS] } [] Try.f89 eqRowFS.ps eqRowFS.rs eqRowFS.ex (a, b) = eqRow a b := by kernel_rfl
theorem eqRow_sound : Sound Try.prog eqRowFS :=
  sound_of_den (E := { tt := tt, fs := [eqIntSFS, eqOriginSFS] }) (.cons eqIntS_callable eqIntS_sound (.cons eqOriginS_callable eqOriginS_sound (.nil tt_ok))) mixed_ok [] (fn := Try.f89) (by kernel_rfl) fun x => eqRow_den x.1 x.2
theorem eqRowS_callable : callable Try.prog 86 = true := by kernel_rfl
theorem eqRowS_den (a : List GRow) (b : List GRow) : denF { tt := tt, fs := [eqRowFS] } [(4, { n := 27, its := [.t 0 (.ro (.list (.base .row))), .t 1 (.ro (.list (.base .row))), .t 5 (.ro (.base .int))], boxes := [], ptrs := [] })] Try.f86 eqRowSFS.ps eqRowSFS.rs eqRowSFS.ex (a, b) = eqRowS a b := by kernel_rfl
theorem eqRowS_sound : Sound Try.prog eqRowSFS :=
  sound_of_den (E := { tt := tt, fs := [eqRowFS] }) (.cons eqRow_callable eqRow_sound (.nil tt_ok)) mixed_ok [(4, { n := 27, its := [.t 0 (.ro (.list (.base .row))), .t 1 (.ro (.list (.base .row))), .t 5 (.ro (.base .int))], boxes := [], ptrs := [] })] (fn := Try.f86) (by kernel_rfl) fun x => eqRowS_den x.1 x.2
theorem eqValue_callable : callable Try.prog 76 = true := by kernel_rfl
theorem eqValueS_callable : callable Try.prog 84 = true := by kernel_rfl
theorem eqValue_den (reqValue : GVal → GVal → Option (Bool)) (reqValueS : (List GVal) → (List GVal) → Option (Bool)) (a : GVal) (b : GVal) : denF { tt := tt, fs := [eqStringSFS, eqRowSFS, { fid := 76, ps := [⟨true, .base .val⟩, ⟨true, .base .val⟩], rs := [⟨false, .base .bool⟩], ex := true, fn := fun x => reqValue x.1 x.2 }, { fid := 84, ps := [⟨false, .list (.base .val)⟩, ⟨false, .list (.base .val)⟩], rs := [⟨false, .base .bool⟩], ex := true, fn := fun x => reqValueS x.1 x.2 }] } [] Try.f76 eqValueFS.ps eqValueFS.rs eqValueFS.ex (a, b) = eqValueB reqValue reqValueS a b := by kernel_rfl
theorem eqValueS_den (reqValue : GVal → GVal → Option (Bool)) (reqValueS : (List GVal) → (List GVal) → Option (Bool)) (a : List GVal) (b : List GVal) : denF { tt := tt, fs := [eqStringSFS, eqRowSFS, { fid := 76, ps := [⟨true, .base .val⟩, ⟨true, .base .val⟩], rs := [⟨false, .base .bool⟩], ex := true, fn := fun x => reqValue x.1 x.2 }, { fid := 84, ps := [⟨false, .list (.base .val)⟩, ⟨false, .list (.base .val)⟩], rs := [⟨false, .base .bool⟩], ex := true, fn := fun x => reqValueS x.1 x.2 }] } [(4, { n := 27, its := [.t 0 (.ro (.list (.base .val))), .t 1 (.ro (.list (.base .val))), .t 5 (.ro (.base .int))], boxes := [], ptrs := [] })] Try.f84 eqValueSFS.ps eqValueSFS.rs eqValueSFS.ex (a, b) = eqValueSB reqValue reqValueS a b := by kernel_rfl
theorem eqValueG_sound : ∀ n, Sound Try.prog (eqValueFSN n) ∧ Sound Try.prog (eqValueSFSN n)
  | 0 => ⟨(fun w S args x y h => by cases h), (fun w S args x y h => by cases h)⟩
  | n + 1 => by
    have ih := eqValueG_sound n
    exact ⟨sound_of_den (s := eqValueFSN (n + 1)) (E := { tt := tt, fs := [eqStringSFS, eqRowSFS, eqValueFSN n, eqValueSFSN n] }) (.cons eqStringS_callable eqStringS_sound (.cons eqRowS_callable eqRowS_sound (.cons eqValue_callable ih.1 (.cons eqValueS_callable ih.2 (.nil tt_ok))))) mixed_ok [] (fn := Try.f76) (by kernel_rfl) fun x => eqValue_den _ _ x.1 x.2, sound_of_den (s := eqValueSFSN (n + 1)) (E := { tt := tt, fs := [eqStringSFS, eqRowSFS, eqValueFSN n, eqValueSFSN n] }) (.cons eqStringS_callable eqStringS_sound (.cons eqRowS_callable eqRowS_sound (.cons eqValue_callable ih.1 (.cons eqValueS_callable ih.2 (.nil tt_ok))))) mixed_ok [(4, { n := 27, its := [.t 0 (.ro (.list (.base .val))), .t 1 (.ro (.list (.base .val))), .t 5 (.ro (.base .int))], boxes := [], ptrs := [] })] (fn := Try.f84) (by kernel_rfl) fun x => eqValueS_den _ _ x.1 x.2⟩
theorem eqValue_sound : Sound Try.prog eqValueFS := fun w S args x y h => (eqValueG_sound (siz (α := GVal) x.1 + siz (α := GVal) x.2 + 1)).1 w S args x y h
theorem eqValueS_sound : Sound Try.prog eqValueSFS := fun w S args x y h => (eqValueG_sound (siz (α := List GVal) x.1 + siz (α := List GVal) x.2 + 1)).2 w S args x y h
theorem eqRead_callable : callable Try.prog 64 = true := by kernel_rfl
theorem eqRead_den (a : GRead) (b : GRead) : denF { tt := tt, fs := [eqValueFS] } [] Try.f64 eqReadFS.ps eqReadFS.rs eqReadFS.ex (a, b) = eqRead a b := by kernel_rfl
theorem eqRead_sound : Sound Try.prog eqReadFS :=
  sound_of_den (E := { tt := tt, fs := [eqValueFS] }) (.cons eqValue_callable eqValue_sound (.nil tt_ok)) mixed_ok [] (fn := Try.f64) (by kernel_rfl) fun x => eqRead_den x.1 x.2
theorem eqReadS_callable : callable Try.prog 49 = true := by kernel_rfl
theorem eqReadS_den (a : List GRead) (b : List GRead) : denF { tt := tt, fs := [eqReadFS] } [(4, { n := 27, its := [.t 0 (.ro (.list (.base .read))), .t 1 (.ro (.list (.base .read))), .t 5 (.ro (.base .int))], boxes := [], ptrs := [] })] Try.f49 eqReadSFS.ps eqReadSFS.rs eqReadSFS.ex (a, b) = eqReadS a b := by kernel_rfl
theorem eqReadS_sound : Sound Try.prog eqReadSFS :=
  sound_of_den (E := { tt := tt, fs := [eqReadFS] }) (.cons eqRead_callable eqRead_sound (.nil tt_ok)) mixed_ok [(4, { n := 27, its := [.t 0 (.ro (.list (.base .read))), .t 1 (.ro (.list (.base .read))), .t 5 (.ro (.base .int))], boxes := [], ptrs := [] })] (fn := Try.f49) (by kernel_rfl) fun x => eqReadS_den x.1 x.2
theorem eqTape_callable : callable Try.prog 30 = true := by kernel_rfl
theorem eqTape_den (a : GTape) (b : GTape) : denF { tt := tt, fs := [eqReadSFS] } [] Try.f30 eqTapeFS.ps eqTapeFS.rs eqTapeFS.ex (a, b) = eqTape a b := by kernel_rfl
theorem eqTape_sound : Sound Try.prog eqTapeFS :=
  sound_of_den (E := { tt := tt, fs := [eqReadSFS] }) (.cons eqReadS_callable eqReadS_sound (.nil tt_ok)) mixed_ok [] (fn := Try.f30) (by kernel_rfl) fun x => eqTape_den x.1 x.2
theorem eqTapeS_callable : callable Try.prog 10 = true := by kernel_rfl
theorem eqTapeS_den (a : List GTape) (b : List GTape) : denF { tt := tt, fs := [eqTapeFS] } [(4, { n := 27, its := [.t 0 (.ro (.list (.base .tape))), .t 1 (.ro (.list (.base .tape))), .t 5 (.ro (.base .int))], boxes := [], ptrs := [] })] Try.f10 eqTapeSFS.ps eqTapeSFS.rs eqTapeSFS.ex (a, b) = eqTapeS a b := by kernel_rfl
theorem eqTapeS_sound : Sound Try.prog eqTapeSFS :=
  sound_of_den (E := { tt := tt, fs := [eqTapeFS] }) (.cons eqTape_callable eqTape_sound (.nil tt_ok)) mixed_ok [(4, { n := 27, its := [.t 0 (.ro (.list (.base .tape))), .t 1 (.ro (.list (.base .tape))), .t 5 (.ro (.base .int))], boxes := [], ptrs := [] })] (fn := Try.f10) (by kernel_rfl) fun x => eqTapeS_den x.1 x.2
theorem eqCell_callable : callable Try.prog 50 = true := by kernel_rfl
theorem eqCell_den (a : GCell) (b : GCell) : denF { tt := tt, fs := [] } [] Try.f50 eqCellFS.ps eqCellFS.rs eqCellFS.ex (a, b) = eqCell a b := by kernel_rfl
theorem eqCell_sound : Sound Try.prog eqCellFS :=
  sound_of_den (E := { tt := tt, fs := [] }) (.nil tt_ok) mixed_ok [] (fn := Try.f50) (by kernel_rfl) fun x => eqCell_den x.1 x.2
theorem eqCellS_callable : callable Try.prog 31 = true := by kernel_rfl
theorem eqCellS_den (a : List GCell) (b : List GCell) : denF { tt := tt, fs := [eqCellFS] } [(4, { n := 27, its := [.t 0 (.ro (.list (.base .cell))), .t 1 (.ro (.list (.base .cell))), .t 5 (.ro (.base .int))], boxes := [], ptrs := [] })] Try.f31 eqCellSFS.ps eqCellSFS.rs eqCellSFS.ex (a, b) = eqCellS a b := by kernel_rfl
theorem eqCellS_sound : Sound Try.prog eqCellSFS :=
  sound_of_den (E := { tt := tt, fs := [eqCellFS] }) (.cons eqCell_callable eqCell_sound (.nil tt_ok)) mixed_ok [(4, { n := 27, its := [.t 0 (.ro (.list (.base .cell))), .t 1 (.ro (.list (.base .cell))), .t 5 (.ro (.base .int))], boxes := [], ptrs := [] })] (fn := Try.f31) (by kernel_rfl) fun x => eqCellS_den x.1 x.2
theorem eqNotebook_callable : callable Try.prog 11 = true := by kernel_rfl
theorem eqNotebook_den (a : GNotebook) (b : GNotebook) : denF { tt := tt, fs := [eqCellSFS] } [] Try.f11 eqNotebookFS.ps eqNotebookFS.rs eqNotebookFS.ex (a, b) = eqNotebook a b := by kernel_rfl
theorem eqNotebook_sound : Sound Try.prog eqNotebookFS :=
  sound_of_den (E := { tt := tt, fs := [eqCellSFS] }) (.cons eqCellS_callable eqCellS_sound (.nil tt_ok)) mixed_ok [] (fn := Try.f11) (by kernel_rfl) fun x => eqNotebook_den x.1 x.2
theorem markText_callable : callable Try.prog 51 = true := by kernel_rfl
theorem markText_den (a : Int) : denF { tt := tt, fs := [] } [(4, { n := 20, its := [.t 0 (.ro (.base .int)), .t 3 (.ro (.base .str))], boxes := [], ptrs := [] })] Try.f51 markTextFS.ps markTextFS.rs markTextFS.ex a = markText a := by kernel_rfl
theorem markText_sound : Sound Try.prog markTextFS :=
  sound_of_den (E := { tt := tt, fs := [] }) (.nil tt_ok) mixed_ok [(4, { n := 20, its := [.t 0 (.ro (.base .int)), .t 3 (.ro (.base .str))], boxes := [], ptrs := [] })] (fn := Try.f51) (by kernel_rfl) fun x => markText_den x
theorem markStringS_callable : callable Try.prog 53 = true := by kernel_rfl
theorem markStringS_den (a : List Str) (b : Int) : denMF { tt := tt, fs := [markTextFS] } [(2, { n := 20, ty := .base .str, si := 5, sk := 1 })] Try.f53 markStringSMS.sh a b = markStringS a b := by kernel_rfl
theorem markStringS_msound : MSound Try.prog markStringSMS :=
  msound_of_den (E := { tt := tt, fs := [markTextFS] }) (.cons markText_callable markText_sound (.nil tt_ok)) [(2, { n := 20, ty := .base .str, si := 5, sk := 1 })] (fn := Try.f53) (by kernel_rfl) fun x n => markStringS_den x n
theorem markIntS_callable : callable Try.prog 65 = true := by kernel_rfl
theorem markIntS_den (a : List Int) (b : Int) : denMF { tt := tt, fs := [] } [(2, { n := 19, ty := .base .int, si := 5, sk := 1 })] Try.f65 markIntSMS.sh a b = markIntS a b := by kernel_rfl
theorem markIntS_msound : MSound Try.prog markIntSMS :=
  msound_of_den (E := { tt := tt, fs := [] }) (.nil tt_ok) [(2, { n := 19, ty := .base .int, si := 5, sk := 1 })] (fn := Try.f65) (by kernel_rfl) fun x n => markIntS_den x n
theorem markOriginS_callable : callable Try.prog 66 = true := by kernel_rfl
theorem markOriginS_den (a : List GOrigin) (b : Int) : denMF { tt := tt, fs := [] } [(2, { n := 27, ty := .base .origin, si := 5, sk := 1 })] Try.f66 markOriginSMS.sh a b = markOriginS a b := by kernel_rfl
theorem markOriginS_msound : MSound Try.prog markOriginSMS :=
  msound_of_den (E := { tt := tt, fs := [] }) (.nil tt_ok) [(2, { n := 27, ty := .base .origin, si := 5, sk := 1 })] (fn := Try.f66) (by kernel_rfl) fun x n => markOriginS_den x n
theorem markRowS_callable : callable Try.prog 54 = true := by kernel_rfl
theorem markRowS_den (a : List GRow) (b : Int) : denMF { tt := tt, fs := [], ms := [markIntSMS, markOriginSMS] } [(2, { n := 27, ty := .base .row, si := 5, sk := 1 })] Try.f54 markRowSMS.sh a b = markRowS a b := by kernel_rfl
theorem markRowS_msound : MSound Try.prog markRowSMS :=
  msound_of_den (E := { tt := tt, fs := [], ms := [markIntSMS, markOriginSMS] }) (.consM markIntS_callable markIntS_msound (.consM markOriginS_callable markOriginS_msound (.nil tt_ok))) [(2, { n := 27, ty := .base .row, si := 5, sk := 1 })] (fn := Try.f54) (by kernel_rfl) fun x n => markRowS_den x n
theorem markValueS_callable : callable Try.prog 52 = true := by kernel_rfl
theorem markValueS_den (rmarkValueS : (List GVal) → Int → Option (List GVal × Int)) (a : List GVal) (b : Int) : denMF { tt := tt, fs := [markTextFS], ms := [markStringSMS, markRowSMS, { fid := 52, sh := ⟨false, .list (.base .val)⟩, fn := fun x n => rmarkValueS x n }] } [(2, { n := 63, ty := .base .val, si := 5, sk := 1 })] Try.f52 markValueSMS.sh a b = markValueSB rmarkValueS a b := by kernel_rfl
theorem markValueSG_msound : ∀ k, MSound Try.prog (markValueSMSN k)
  | 0 => fun w u x n r fps h => (by cases h)
  | k + 1 => msound_of_den (m := markValueSMSN (k + 1)) (E := { tt := tt, fs := [markTextFS], ms := [markStringSMS, markRowSMS, markValueSMSN k] }) (.cons markText_callable markText_sound (.consM markStringS_callable markStringS_msound (.consM markRowS_callable markRowS_msound (.consM markValueS_callable (markValueSG_msound k) (.nil tt_ok))))) [(2, { n := 63, ty := .base .val, si := 5, sk := 1 })] (fn := Try.f52) (by kernel_rfl) fun x n => markValueS_den _ x n
theorem markValueS_msound : MSound Try.prog markValueSMS := MSound.fuel (fid := 52) (sh := ⟨false, .list (.base .val)⟩) (G := fun k x n => markValueSG k x n) (f := fun x n => markValueS x n) markValueSG_msound (fun x => siz (α := List GVal) x + 1) (fun _ _ => rfl)
theorem markReadS_callable : callable Try.prog 32 = true := by kernel_rfl
theorem markReadS_den (a : List GRead) (b : Int) : denMF { tt := tt, fs := [markTextFS], ms := [markValueSMS, markStringSMS, markRowSMS] } [(2, { n := 99, ty := .base .read, si := 5, sk := 1 })] Try.f32 markReadSMS.sh a b = markReadS a b := by kernel_rfl
theorem markReadS_msound : MSound Try.prog markReadSMS :=
  msound_of_den (E := { tt := tt, fs := [markTextFS], ms := [markValueSMS, markStringSMS, markRowSMS] }) (.cons markText_callable markText_sound (.consM markValueS_callable markValueS_msound (.consM markStringS_callable markStringS_msound (.consM markRowS_callable markRowS_msound (.nil tt_ok))))) [(2, { n := 99, ty := .base .read, si := 5, sk := 1 })] (fn := Try.f32) (by kernel_rfl) fun x n => markReadS_den x n
theorem markTapeS_callable : callable Try.prog 12 = true := by kernel_rfl
theorem markTapeS_den (a : List GTape) (b : Int) : denMF { tt := tt, fs := [], ms := [markReadSMS] } [(2, { n := 34, ty := .base .tape, si := 5, sk := 1 })] Try.f12 markTapeSMS.sh a b = markTapeS a b := by kernel_rfl
theorem markTapeS_msound : MSound Try.prog markTapeSMS :=
  msound_of_den (E := { tt := tt, fs := [], ms := [markReadSMS] }) (.consM markReadS_callable markReadS_msound (.nil tt_ok)) [(2, { n := 34, ty := .base .tape, si := 5, sk := 1 })] (fn := Try.f12) (by kernel_rfl) fun x n => markTapeS_den x n
theorem markCellS_callable : callable Try.prog 33 = true := by kernel_rfl
theorem markCellS_den (a : List GCell) (b : Int) : denMF { tt := tt, fs := [markTextFS] } [(2, { n := 57, ty := .base .cell, si := 5, sk := 1 })] Try.f33 markCellSMS.sh a b = markCellS a b := by kernel_rfl
theorem markCellS_msound : MSound Try.prog markCellSMS :=
  msound_of_den (E := { tt := tt, fs := [markTextFS] }) (.cons markText_callable markText_sound (.nil tt_ok)) [(2, { n := 57, ty := .base .cell, si := 5, sk := 1 })] (fn := Try.f33) (by kernel_rfl) fun x n => markCellS_den x n
theorem markNotebook_callable : callable Try.prog 13 = true := by kernel_rfl
theorem markNotebook_den (a : GNotebook) (b : Int) : denMF { tt := tt, fs := [], ms := [markCellSMS] } [] Try.f13 markNotebookMS.sh a b = markNotebook a b := by kernel_rfl
theorem markNotebook_msound : MSound Try.prog markNotebookMS :=
  msound_of_den (E := { tt := tt, fs := [], ms := [markCellSMS] }) (.consM markCellS_callable markCellS_msound (.nil tt_ok)) [] (fn := Try.f13) (by kernel_rfl) fun x n => markNotebook_den x n
theorem heldStringS_callable : callable Try.prog 56 = true := by kernel_rfl
theorem heldStringS_den (a : List Str) (b : Int) : denF { tt := tt, fs := [markTextFS] } [(2, { n := 22, its := [.t 0 (.ro (.list (.base .str))), .t 1 (.ro (.base .int)), .t 5 (.ro (.base .int))], boxes := [], ptrs := [] })] Try.f56 heldStringSFS.ps heldStringSFS.rs heldStringSFS.ex (a, b) = heldStringS a b := by kernel_rfl
theorem heldStringS_sound : Sound Try.prog heldStringSFS :=
  sound_of_den (E := { tt := tt, fs := [markTextFS] }) (.cons markText_callable markText_sound (.nil tt_ok)) mixed_ok [(2, { n := 22, its := [.t 0 (.ro (.list (.base .str))), .t 1 (.ro (.base .int)), .t 5 (.ro (.base .int))], boxes := [], ptrs := [] })] (fn := Try.f56) (by kernel_rfl) fun x => heldStringS_den x.1 x.2
theorem heldIntS_callable : callable Try.prog 67 = true := by kernel_rfl
theorem heldIntS_den (a : List Int) (b : Int) : denF { tt := tt, fs := [] } [(2, { n := 21, its := [.t 0 (.ro (.list (.base .int))), .t 1 (.ro (.base .int)), .t 5 (.ro (.base .int))], boxes := [], ptrs := [] })] Try.f67 heldIntSFS.ps heldIntSFS.rs heldIntSFS.ex (a, b) = heldIntS a b := by kernel_rfl
theorem heldIntS_sound : Sound Try.prog heldIntSFS :=
  sound_of_den (E := { tt := tt, fs := [] }) (.nil tt_ok) mixed_ok [(2, { n := 21, its := [.t 0 (.ro (.list (.base .int))), .t 1 (.ro (.base .int)), .t 5 (.ro (.base .int))], boxes := [], ptrs := [] })] (fn := Try.f67) (by kernel_rfl) fun x => heldIntS_den x.1 x.2
theorem heldOriginS_callable : callable Try.prog 68 = true := by kernel_rfl
theorem heldOriginS_den (a : List GOrigin) (b : Int) : denF { tt := tt, fs := [] } [(2, { n := 31, its := [.t 0 (.ro (.list (.base .origin))), .t 1 (.ro (.base .int)), .t 5 (.ro (.base .int))], boxes := [], ptrs := [] })] Try.f68 heldOriginSFS.ps heldOriginSFS.rs heldOriginSFS.ex (a, b) = heldOriginS a b := by kernel_rfl
theorem heldOriginS_sound : Sound Try.prog heldOriginSFS :=
  sound_of_den (E := { tt := tt, fs := [] }) (.nil tt_ok) mixed_ok [(2, { n := 31, its := [.t 0 (.ro (.list (.base .origin))), .t 1 (.ro (.base .int)), .t 5 (.ro (.base .int))], boxes := [], ptrs := [] })] (fn := Try.f68) (by kernel_rfl) fun x => heldOriginS_den x.1 x.2
theorem heldRowS_callable : callable Try.prog 57 = true := by kernel_rfl
theorem heldRowS_den (a : List GRow) (b : Int) : denF { tt := tt, fs := [heldIntSFS, heldOriginSFS] } [(2, { n := 31, its := [.t 0 (.ro (.list (.base .row))), .t 1 (.ro (.base .int)), .t 5 (.ro (.base .int))], boxes := [], ptrs := [] })] Try.f57 heldRowSFS.ps heldRowSFS.rs heldRowSFS.ex (a, b) = heldRowS a b := by kernel_rfl
theorem heldRowS_sound : Sound Try.prog heldRowSFS :=
  sound_of_den (E := { tt := tt, fs := [heldIntSFS, heldOriginSFS] }) (.cons heldIntS_callable heldIntS_sound (.cons heldOriginS_callable heldOriginS_sound (.nil tt_ok))) mixed_ok [(2, { n := 31, its := [.t 0 (.ro (.list (.base .row))), .t 1 (.ro (.base .int)), .t 5 (.ro (.base .int))], boxes := [], ptrs := [] })] (fn := Try.f57) (by kernel_rfl) fun x => heldRowS_den x.1 x.2
theorem heldValueS_callable : callable Try.prog 55 = true := by kernel_rfl
theorem heldValueS_den (rheldValueS : (List GVal) → Int → Option (Int)) (a : List GVal) (b : Int) : denF { tt := tt, fs := [markTextFS, heldStringSFS, heldRowSFS, { fid := 55, ps := [⟨false, .list (.base .val)⟩, ⟨false, .base .int⟩], rs := [⟨false, .base .int⟩], ex := true, fn := fun x => rheldValueS x.1 x.2 }] } [(2, { n := 77, its := [.t 0 (.ro (.list (.base .val))), .t 1 (.ro (.base .int)), .t 5 (.ro (.base .int))], boxes := [], ptrs := [] })] Try.f55 heldValueSFS.ps heldValueSFS.rs heldValueSFS.ex (a, b) = heldValueSB rheldValueS a b := by kernel_rfl
theorem heldValueSG_sound : ∀ n, Sound Try.prog (heldValueSFSN n)
  | 0 => (fun w S args x y h => by cases h)
  | n + 1 => by
    have ih := heldValueSG_sound n
    exact sound_of_den (s := heldValueSFSN (n + 1)) (E := { tt := tt, fs := [markTextFS, heldStringSFS, heldRowSFS, heldValueSFSN n] }) (.cons markText_callable markText_sound (.cons heldStringS_callable heldStringS_sound (.cons heldRowS_callable heldRowS_sound (.cons heldValueS_callable ih (.nil tt_ok))))) mixed_ok [(2, { n := 77, its := [.t 0 (.ro (.list (.base .val))), .t 1 (.ro (.base .int)), .t 5 (.ro (.base .int))], boxes := [], ptrs := [] })] (fn := Try.f55) (by kernel_rfl) fun x => heldValueS_den _ x.1 x.2
theorem heldValueS_sound : Sound Try.prog heldValueSFS := fun w S args x y h => (heldValueSG_sound (siz (α := List GVal) x.1 + 1)) w S args x y h
theorem heldReadS_callable : callable Try.prog 34 = true := by kernel_rfl
theorem heldReadS_den (a : List GRead) (b : Int) : denF { tt := tt, fs := [markTextFS, heldValueSFS, heldStringSFS, heldRowSFS] } [(2, { n := 121, its := [.t 0 (.ro (.list (.base .read))), .t 1 (.ro (.base .int)), .t 5 (.ro (.base .int))], boxes := [], ptrs := [] })] Try.f34 heldReadSFS.ps heldReadSFS.rs heldReadSFS.ex (a, b) = heldReadS a b := by kernel_rfl
theorem heldReadS_sound : Sound Try.prog heldReadSFS :=
  sound_of_den (E := { tt := tt, fs := [markTextFS, heldValueSFS, heldStringSFS, heldRowSFS] }) (.cons markText_callable markText_sound (.cons heldValueS_callable heldValueS_sound (.cons heldStringS_callable heldStringS_sound (.cons heldRowS_callable heldRowS_sound (.nil tt_ok))))) mixed_ok [(2, { n := 121, its := [.t 0 (.ro (.list (.base .read))), .t 1 (.ro (.base .int)), .t 5 (.ro (.base .int))], boxes := [], ptrs := [] })] (fn := Try.f34) (by kernel_rfl) fun x => heldReadS_den x.1 x.2
theorem heldTapeS_callable : callable Try.prog 14 = true := by kernel_rfl
theorem heldTapeS_den (a : List GTape) (b : Int) : denF { tt := tt, fs := [heldReadSFS] } [(2, { n := 40, its := [.t 0 (.ro (.list (.base .tape))), .t 1 (.ro (.base .int)), .t 5 (.ro (.base .int))], boxes := [], ptrs := [] })] Try.f14 heldTapeSFS.ps heldTapeSFS.rs heldTapeSFS.ex (a, b) = heldTapeS a b := by kernel_rfl
theorem heldTapeS_sound : Sound Try.prog heldTapeSFS :=
  sound_of_den (E := { tt := tt, fs := [heldReadSFS] }) (.cons heldReadS_callable heldReadS_sound (.nil tt_ok)) mixed_ok [(2, { n := 40, its := [.t 0 (.ro (.list (.base .tape))), .t 1 (.ro (.base .int)), .t 5 (.ro (.base .int))], boxes := [], ptrs := [] })] (fn := Try.f14) (by kernel_rfl) fun x => heldTapeS_den x.1 x.2
theorem FnExactRenameTapes_callable : callable Try.prog 3 = true := by kernel_rfl
theorem FnExactRenameTapes_den (a : List GTape) (b : GNotebook) (c : GNotebook) : denF { tt := tt, fs := [szTapeSFS, szNotebookFS, sRenameTapesFS, toTapeSFS, toNotebookFS, iRenameTapesFS, eqTapeSFS, eqNotebookFS, heldTapeSFS], ms := [markTapeSMS, markNotebookMS], trees := true } [] Try.f3 FnExactRenameTapesFS.ps FnExactRenameTapesFS.rs FnExactRenameTapesFS.ex (a, b, c) = FnExactRenameTapes a b c := by kernel_rfl
theorem FnExactRenameTapes_sound : Sound Try.prog FnExactRenameTapesFS :=
  sound_of_den (E := { tt := tt, fs := [szTapeSFS, szNotebookFS, sRenameTapesFS, toTapeSFS, toNotebookFS, iRenameTapesFS, eqTapeSFS, eqNotebookFS, heldTapeSFS], ms := [markTapeSMS, markNotebookMS], trees := true }) (.cons szTapeS_callable szTapeS_sound (.cons szNotebook_callable szNotebook_sound (.cons sRenameTapes_callable sRenameTapes_sound (.cons toTapeS_callable toTapeS_sound (.cons toNotebook_callable toNotebook_sound (.cons iRenameTapes_callable iRenameTapes_sound (.cons eqTapeS_callable eqTapeS_sound (.cons eqNotebook_callable eqNotebook_sound (.cons heldTapeS_callable heldTapeS_sound (.consM markTapeS_callable markTapeS_msound (.consM markNotebook_callable markNotebook_msound (.nil tt_ok)))))))))))) mixed_ok [] (fn := Try.f3) (by kernel_rfl) fun x => FnExactRenameTapes_den x.1 x.2.1 x.2.2
end Go.Proofs.Ytopcobafmnpmkaa
