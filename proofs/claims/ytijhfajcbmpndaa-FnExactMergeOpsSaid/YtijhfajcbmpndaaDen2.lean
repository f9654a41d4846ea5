/- The functions compute their models, by gen.py. -/
import Derived.Test.YtijhfajcbmpndaaSrtMergeOps
namespace Go.Proofs.Ytijhfajcbmpndaa
open Go.Abs Go.Proofs
set_option maxRecDepth 100000
theorem iMergeOps_callable : callable Try.prog 7 = true := by kernel_rfl
theorem iMergeOps_den (a : List GOp) (b : List GOp) : denF { tt := tt, fs := [iCopyOpFS], so := [srtMergeOps] } [(7, { n := 57, its := [.b 5 0 (.own (.base .op) true true 0), .b 7 0 (.ro (.base .int)), .b 7 1 (.ro (.base .int)), .b 7 2 (.ro (.base .int)), .b 7 3 (.ro (.list (.base .int))), .b 7 4 (.ro (.base .int)), .b 7 5 (.ro (.base .int)), .b 7 6 (.ro (.base .int)), .b 7 7 (.ro (.base .int)), .b 7 8 (.ro (.base .int)), .b 7 9 (.ro (.base .str)), .b 7 10 (.ro (.base .str)), .b 7 11 (.ro (.base .int)), .b 7 12 (.ro (.base .str)), .b 7 13 (.ro (.base .str)), .b 7 14 (.ro (.base .int)), .b 7 15 (.ro (.base .int)), .b 7 16 (.ro (.list (.base .read))), .t 8 (.ro (.base .bool)), .t 16 (.own (.base .op) false true 1), .t 17 (.ro (.base .int)), .t 18 (.ro (.base .int)), .t 23 (.ro (.base .int)), .t 24 (.ro (.base .int))], boxes := [(5, 1), (7, 17)], ptrs := [(5, 5, 0), (7, 7, 0)], als := [(22, 5, 0)] }), (3, { n := 57, its := [.b 5 0 (.own (.base .op) true true 0), .t 16 (.own (.base .op) false true 1), .t 17 (.ro (.base .int)), .t 18 (.ro (.base .int))], boxes := [(5, 1)], ptrs := [(5, 5, 0)] })] Try.f7 iMergeOpsFS.ps iMergeOpsFS.rs iMergeOpsFS.ex (a, b) = iMergeOps a b := by kernel_rfl
theorem iMergeOps_sound : Sound Try.prog iMergeOpsFS :=
  sound_of_den (E := { tt := tt, fs := [iCopyOpFS], so := [srtMergeOps] }) (EnvOk.sorts [srtMergeOps] srtsMergeOps_ok (.cons iCopyOp_callable iCopyOp_sound (.nil tt_ok))) mixed_ok [(7, { n := 57, its := [.b 5 0 (.own (.base .op) true true 0), .b 7 0 (.ro (.base .int)), .b 7 1 (.ro (.base .int)), .b 7 2 (.ro (.base .int)), .b 7 3 (.ro (.list (.base .int))), .b 7 4 (.ro (.base .int)), .b 7 5 (.ro (.base .int)), .b 7 6 (.ro (.base .int)), .b 7 7 (.ro (.base .int)), .b 7 8 (.ro (.base .int)), .b 7 9 (.ro (.base .str)), .b 7 10 (.ro (.base .str)), .b 7 11 (.ro (.base .int)), .b 7 12 (.ro (.base .str)), .b 7 13 (.ro (.base .str)), .b 7 14 (.ro (.base .int)), .b 7 15 (.ro (.base .int)), .b 7 16 (.ro (.list (.base .read))), .t 8 (.ro (.base .bool)), .t 16 (.own (.base .op) false true 1), .t 17 (.ro (.base .int)), .t 18 (.ro (.base .int)), .t 23 (.ro (.base .int)), .t 24 (.ro (.base .int))], boxes := [(5, 1), (7, 17)], ptrs := [(5, 5, 0), (7, 7, 0)], als := [(22, 5, 0)] }), (3, { n := 57, its := [.b 5 0 (.own (.base .op) true true 0), .t 16 (.own (.base .op) false true 1), .t 17 (.ro (.base .int)), .t 18 (.ro (.base .int))], boxes := [(5, 1)], ptrs := [(5, 5, 0)] })] (fn := Try.f7) (by kernel_rfl) fun x => iMergeOps_den x.1 x.2
theorem eqIntS_callable : callable Try.prog 38 = true := by kernel_rfl
theorem eqIntS_den (a : List Int) (b : List Int) : denF { tt := tt, fs := [] } [(4, { n := 26, its := [.t 0 (.ro (.list (.base .int))), .t 1 (.ro (.list (.base .int))), .t 5 (.ro (.base .int))], boxes := [], ptrs := [] })] Try.f38 eqIntSFS.ps eqIntSFS.rs eqIntSFS.ex (a, b) = eqIntS a b := by kernel_rfl
theorem eqIntS_sound : Sound Try.prog eqIntSFS :=
  sound_of_den (E := { tt := tt, fs := [] }) (.nil tt_ok) mixed_ok [(4, { n := 26, its := [.t 0 (.ro (.list (.base .int))), .t 1 (.ro (.list (.base .int))), .t 5 (.ro (.base .int))], boxes := [], ptrs := [] })] (fn := Try.f38) (by kernel_rfl) fun x => eqIntS_den x.1 x.2
theorem eqCell_callable : callable Try.prog 64 = true := by kernel_rfl
theorem eqCell_den (a : GCell) (b : GCell) : denF { tt := tt, fs := [] } [] Try.f64 eqCellFS.ps eqCellFS.rs eqCellFS.ex (a, b) = eqCell a b := by kernel_rfl
theorem eqCell_sound : Sound Try.prog eqCellFS :=
  sound_of_den (E := { tt := tt, fs := [] }) (.nil tt_ok) mixed_ok [] (fn := Try.f64) (by kernel_rfl) fun x => eqCell_den x.1 x.2
theorem eqEdit_callable : callable Try.prog 39 = true := by kernel_rfl
theorem eqEdit_den (a : GEdit) (b : GEdit) : denF { tt := tt, fs := [eqCellFS] } [] Try.f39 eqEditFS.ps eqEditFS.rs eqEditFS.ex (a, b) = eqEdit a b := by kernel_rfl
theorem eqEdit_sound : Sound Try.prog eqEditFS :=
  sound_of_den (E := { tt := tt, fs := [eqCellFS] }) (.cons eqCell_callable eqCell_sound (.nil tt_ok)) mixed_ok [] (fn := Try.f39) (by kernel_rfl) fun x => eqEdit_den x.1 x.2
theorem eqStringS_callable : callable Try.prog 84 = true := by kernel_rfl
theorem eqStringS_den (a : List Str) (b : List Str) : denF { tt := tt, fs := [] } [(4, { n := 26, its := [.t 0 (.ro (.list (.base .str))), .t 1 (.ro (.list (.base .str))), .t 5 (.ro (.base .int))], boxes := [], ptrs := [] })] Try.f84 eqStringSFS.ps eqStringSFS.rs eqStringSFS.ex (a, b) = eqStringS a b := by kernel_rfl
theorem eqStringS_sound : Sound Try.prog eqStringSFS :=
  sound_of_den (E := { tt := tt, fs := [] }) (.nil tt_ok) mixed_ok [(4, { n := 26, its := [.t 0 (.ro (.list (.base .str))), .t 1 (.ro (.list (.base .str))), .t 5 (.ro (.base .int))], boxes := [], ptrs := [] })] (fn := Try.f84) (by kernel_rfl) fun x => eqStringS_den x.1 x.2
theorem eqOrigin_callable : callable Try.prog 93 = true := by kernel_rfl
theorem eqOrigin_den (a : GOrigin) (b : GOrigin) : denF { tt := tt, fs := [] } [] Try.f93 eqOriginFS.ps eqOriginFS.rs eqOriginFS.ex (a, b) = eqOrigin a b := by kernel_rfl
theorem eqOrigin_sound : Sound Try.prog eqOriginFS :=
  sound_of_den (E := { tt := tt, fs := [] }) (.nil tt_ok) mixed_ok [] (fn := Try.f93) (by kernel_rfl) fun x => eqOrigin_den x.1 x.2
theorem eqOriginS_callable : callable Try.prog 91 = true := by kernel_rfl
theorem eqOriginS_den (a : List GOrigin) (b : List GOrigin) : denF { tt := tt, fs := [eqOriginFS] } [(4, { n := 27, its := [.t 0 (.ro (.list (.base .origin))), .t 1 (.ro (.list (.base .origin))), .t 5 (.ro (.base .int))], boxes := [], ptrs := [] })] Try.f91 eqOriginSFS.ps eqOriginSFS.rs eqOriginSFS.ex (a, b) = eqOriginS a b := by kernel_rfl
theorem eqOriginS_sound : Sound Try.prog eqOriginSFS :=
  sound_of_den (E := { tt := tt, fs := [eqOriginFS] }) (.cons eqOrigin_callable eqOrigin_sound (.nil tt_ok)) mixed_ok [(4, { n := 27, its := [.t 0 (.ro (.list (.base .origin))), .t 1 (.ro (.list (.base .origin))), .t 5 (.ro (.base .int))], boxes := [], ptrs := [] })] (fn := Try.f91) (by kernel_rfl) fun x => eqOriginS_den x.1 x.2
theorem eqRow_callable : callable Try.prog 88 = true := by kernel_rfl
theorem eqRow_den (a : GRow) (b : GRow) : denF { tt := tt, fs := [eqIntSFS, eqOriginSFS] } [] Try.f88 eqRowFS.ps eqRowFS.rs eqRowFS.ex (a, b) = eqRow a b := by kernel_rfl
theorem eqRow_sound : Sound Try.prog eqRowFS :=
  sound_of_den (E := { tt := tt, fs := [eqIntSFS, eqOriginSFS] }) (.cons eqIntS_callable eqIntS_sound (.cons eqOriginS_callable eqOriginS_sound (.nil tt_ok))) mixed_ok [] (fn := Try.f88) (by kernel_rfl) fun x => eqRow_den x.1 x.2
theorem eqRowS_callable : callable Try.prog 85 = true := by kernel_rfl
theorem eqRowS_den (a : List GRow) (b : List GRow) : denF { tt := tt, fs := [eqRowFS] } [(4, { n := 27, its := [.t 0 (.ro (.list (.base .row))), .t 1 (.ro (.list (.base .row))), .t 5 (.ro (.base .int))], boxes := [], ptrs := [] })] Try.f85 eqRowSFS.ps eqRowSFS.rs eqRowSFS.ex (a, b) = eqRowS a b := by kernel_rfl
theorem eqRowS_sound : Sound Try.prog eqRowSFS :=
  sound_of_den (E := { tt := tt, fs := [eqRowFS] }) (.cons eqRow_callable eqRow_sound (.nil tt_ok)) mixed_ok [(4, { n := 27, its := [.t 0 (.ro (.list (.base .row))), .t 1 (.ro (.list (.base .row))), .t 5 (.ro (.base .int))], boxes := [], ptrs := [] })] (fn := Try.f85) (by kernel_rfl) fun x => eqRowS_den x.1 x.2
theorem eqValue_callable : callable Try.prog 74 = true := by kernel_rfl
theorem eqValueS_callable : callable Try.prog 83 = true := by kernel_rfl
theorem eqValue_den (reqValue : GVal → GVal → Option (Bool)) (reqValueS : (List GVal) → (List GVal) → Option (Bool)) (a : GVal) (b : GVal) : denF { tt := tt, fs := [eqStringSFS, eqRowSFS, { fid := 74, ps := [⟨true, .base .val⟩, ⟨true, .base .val⟩], rs := [⟨false, .base .bool⟩], ex := true, fn := fun x => reqValue x.1 x.2 }, { fid := 83, ps := [⟨false, .list (.base .val)⟩, ⟨false, .list (.base .val)⟩], rs := [⟨false, .base .bool⟩], ex := true, fn := fun x => reqValueS x.1 x.2 }] } [] Try.f74 eqValueFS.ps eqValueFS.rs eqValueFS.ex (a, b) = eqValueB reqValue reqValueS a b := by kernel_rfl
theorem eqValueS_den (reqValue : GVal → GVal → Option (Bool)) (reqValueS : (List GVal) → (List GVal) → Option (Bool)) (a : List GVal) (b : List GVal) : denF { tt := tt, fs := [eqStringSFS, eqRowSFS, { fid := 74, ps := [⟨true, .base .val⟩, ⟨true, .base .val⟩], rs := [⟨false, .base .bool⟩], ex := true, fn := fun x => reqValue x.1 x.2 }, { fid := 83, ps := [⟨false, .list (.base .val)⟩, ⟨false, .list (.base .val)⟩], rs := [⟨false, .base .bool⟩], ex := true, fn := fun x => reqValueS x.1 x.2 }] } [(4, { n := 27, its := [.t 0 (.ro (.list (.base .val))), .t 1 (.ro (.list (.base .val))), .t 5 (.ro (.base .int))], boxes := [], ptrs := [] })] Try.f83 eqValueSFS.ps eqValueSFS.rs eqValueSFS.ex (a, b) = eqValueSB reqValue reqValueS a b := by kernel_rfl
theorem eqValueG_sound : ∀ n, Sound Try.prog (eqValueFSN n) ∧ Sound Try.prog (eqValueSFSN n)
  | 0 => ⟨(fun w S args x y h => by cases h), (fun w S args x y h => by cases h)⟩
  | n + 1 => by
    have ih := eqValueG_sound n
    exact ⟨sound_of_den (s := eqValueFSN (n + 1)) (E := { tt := tt, fs := [eqStringSFS, eqRowSFS, eqValueFSN n, eqValueSFSN n] }) (.cons eqStringS_callable eqStringS_sound (.cons eqRowS_callable eqRowS_sound (.cons eqValue_callable ih.1 (.cons eqValueS_callable ih.2 (.nil tt_ok))))) mixed_ok [] (fn := Try.f74) (by kernel_rfl) fun x => eqValue_den _ _ x.1 x.2, sound_of_den (s := eqValueSFSN (n + 1)) (E := { tt := tt, fs := [eqStringSFS, eqRowSFS, eqValueFSN n, eqValueSFSN n] }) (.cons eqStringS_callable eqStringS_sound (.cons eqRowS_callable eqRowS_sound (.cons eqValue_callable ih.1 (.cons eqValueS_callable ih.2 (.nil tt_ok))))) mixed_ok [(4, { n := 27, its := [.t 0 (.ro (.list (.base .val))), .t 1 (.ro (.list (.base .val))), .t 5 (.ro (.base .int))], boxes := [], ptrs := [] })] (fn := Try.f83) (by kernel_rfl) fun x => eqValueS_den _ _ x.1 x.2⟩
theorem eqValue_sound : Sound Try.prog eqValueFS := fun w S args x y h => (eqValueG_sound (siz (α := GVal) x.1 + siz (α := GVal) x.2 + 1)).1 w S args x y h
theorem eqValueS_sound : Sound Try.prog eqValueSFS := fun w S args x y h => (eqValueG_sound (siz (α := List GVal) x.1 + siz (α := List GVal) x.2 + 1)).2 w S args x y h
theorem eqRead_callable : callable Try.prog 65 = true := by kernel_rfl
theorem eqRead_den (a : GRead) (b : GRead) : denF { tt := tt, fs := [eqValueFS] } [] Try.f65 eqReadFS.ps eqReadFS.rs eqReadFS.ex (a, b) = eqRead a b := by kernel_rfl
theorem eqRead_sound : Sound Try.prog eqReadFS :=
  sound_of_den (E := { tt := tt, fs := [eqValueFS] }) (.cons eqValue_callable eqValue_sound (.nil tt_ok)) mixed_ok [] (fn := Try.f65) (by kernel_rfl) fun x => eqRead_den x.1 x.2
theorem eqReadS_callable : callable Try.prog 40 = true := by kernel_rfl
theorem eqReadS_den (a : List GRead) (b : List GRead) : denF { tt := tt, fs := [eqReadFS] } [(4, { n := 27, its := [.t 0 (.ro (.list (.base .read))), .t 1 (.ro (.list (.base .read))), .t 5 (.ro (.base .int))], boxes := [], ptrs := [] })] Try.f40 eqReadSFS.ps eqReadSFS.rs eqReadSFS.ex (a, b) = eqReadS a b := by kernel_rfl
theorem eqReadS_sound : Sound Try.prog eqReadSFS :=
  sound_of_den (E := { tt := tt, fs := [eqReadFS] }) (.cons eqRead_callable eqRead_sound (.nil tt_ok)) mixed_ok [(4, { n := 27, its := [.t 0 (.ro (.list (.base .read))), .t 1 (.ro (.list (.base .read))), .t 5 (.ro (.base .int))], boxes := [], ptrs := [] })] (fn := Try.f40) (by kernel_rfl) fun x => eqReadS_den x.1 x.2
theorem eqOp_callable : callable Try.prog 20 = true := by kernel_rfl
theorem eqOp_den (a : GOp) (b : GOp) : denF { tt := tt, fs := [eqIntSFS, eqEditFS, eqReadSFS] } [] Try.f20 eqOpFS.ps eqOpFS.rs eqOpFS.ex (a, b) = eqOp a b := by kernel_rfl
theorem eqOp_sound : Sound Try.prog eqOpFS :=
  sound_of_den (E := { tt := tt, fs := [eqIntSFS, eqEditFS, eqReadSFS] }) (.cons eqIntS_callable eqIntS_sound (.cons eqEdit_callable eqEdit_sound (.cons eqReadS_callable eqReadS_sound (.nil tt_ok)))) mixed_ok [] (fn := Try.f20) (by kernel_rfl) fun x => eqOp_den x.1 x.2
theorem eqOpS_callable : callable Try.prog 8 = true := by kernel_rfl
theorem eqOpS_den (a : List GOp) (b : List GOp) : denF { tt := tt, fs := [eqOpFS] } [(4, { n := 27, its := [.t 0 (.ro (.list (.base .op))), .t 1 (.ro (.list (.base .op))), .t 5 (.ro (.base .int))], boxes := [], ptrs := [] })] Try.f8 eqOpSFS.ps eqOpSFS.rs eqOpSFS.ex (a, b) = eqOpS a b := by kernel_rfl
theorem eqOpS_sound : Sound Try.prog eqOpSFS :=
  sound_of_den (E := { tt := tt, fs := [eqOpFS] }) (.cons eqOp_callable eqOp_sound (.nil tt_ok)) mixed_ok [(4, { n := 27, its := [.t 0 (.ro (.list (.base .op))), .t 1 (.ro (.list (.base .op))), .t 5 (.ro (.base .int))], boxes := [], ptrs := [] })] (fn := Try.f8) (by kernel_rfl) fun x => eqOpS_den x.1 x.2
theorem markIntS_callable : callable Try.prog 21 = true := by kernel_rfl
theorem markIntS_den (a : List Int) (b : Int) : denMF { tt := tt, fs := [] } [(2, { n := 19, ty := .base .int, si := 5, sk := 1 })] Try.f21 markIntSMS.sh a b = markIntS a b := by kernel_rfl
theorem markIntS_msound : MSound Try.prog markIntSMS :=
  msound_of_den (E := { tt := tt, fs := [] }) (.nil tt_ok) [(2, { n := 19, ty := .base .int, si := 5, sk := 1 })] (fn := Try.f21) (by kernel_rfl) fun x n => markIntS_den x n
theorem markText_callable : callable Try.prog 22 = true := by kernel_rfl
theorem markText_den (a : Int) : denF { tt := tt, fs := [] } [(4, { n := 20, its := [.t 0 (.ro (.base .int)), .t 3 (.ro (.base .str))], boxes := [], ptrs := [] })] Try.f22 markTextFS.ps markTextFS.rs markTextFS.ex a = markText a := by kernel_rfl
theorem markText_sound : Sound Try.prog markTextFS :=
  sound_of_den (E := { tt := tt, fs := [] }) (.nil tt_ok) mixed_ok [(4, { n := 20, its := [.t 0 (.ro (.base .int)), .t 3 (.ro (.base .str))], boxes := [], ptrs := [] })] (fn := Try.f22) (by kernel_rfl) fun x => markText_den x
theorem markStringS_callable : callable Try.prog 42 = true := by kernel_rfl
theorem markStringS_den (a : List Str) (b : Int) : denMF { tt := tt, fs := [markTextFS] } [(2, { n := 20, ty := .base .str, si := 5, sk := 1 })] Try.f42 markStringSMS.sh a b = markStringS a b := by kernel_rfl
theorem markStringS_msound : MSound Try.prog markStringSMS :=
  msound_of_den (E := { tt := tt, fs := [markTextFS] }) (.cons markText_callable markText_sound (.nil tt_ok)) [(2, { n := 20, ty := .base .str, si := 5, sk := 1 })] (fn := Try.f42) (by kernel_rfl) fun x n => markStringS_den x n
theorem markOriginS_callable : callable Try.prog 66 = true := by kernel_rfl
theorem markOriginS_den (a : List GOrigin) (b : Int) : denMF { tt := tt, fs := [] } [(2, { n := 27, ty := .base .origin, si := 5, sk := 1 })] Try.f66 markOriginSMS.sh a b = markOriginS a b := by kernel_rfl
theorem markOriginS_msound : MSound Try.prog markOriginSMS :=
  msound_of_den (E := { tt := tt, fs := [] }) (.nil tt_ok) [(2, { n := 27, ty := .base .origin, si := 5, sk := 1 })] (fn := Try.f66) (by kernel_rfl) fun x n => markOriginS_den x n
theorem markRowS_callable : callable Try.prog 43 = true := by kernel_rfl
theorem markRowS_den (a : List GRow) (b : Int) : denMF { tt := tt, fs := [], ms := [markIntSMS, markOriginSMS] } [(2, { n := 27, ty := .base .row, si := 5, sk := 1 })] Try.f43 markRowSMS.sh a b = markRowS a b := by kernel_rfl
theorem markRowS_msound : MSound Try.prog markRowSMS :=
  msound_of_den (E := { tt := tt, fs := [], ms := [markIntSMS, markOriginSMS] }) (.consM markIntS_callable markIntS_msound (.consM markOriginS_callable markOriginS_msound (.nil tt_ok))) [(2, { n := 27, ty := .base .row, si := 5, sk := 1 })] (fn := Try.f43) (by kernel_rfl) fun x n => markRowS_den x n
theorem markValueS_callable : callable Try.prog 41 = true := by kernel_rfl
theorem markValueS_den (rmarkValueS : (List GVal) → Int → Option (List GVal × Int)) (a : List GVal) (b : Int) : denMF { tt := tt, fs := [markTextFS], ms := [markStringSMS, markRowSMS, { fid := 41, sh := ⟨false, .list (.base .val)⟩, fn := fun x n => rmarkValueS x n }] } [(2, { n := 63, ty := .base .val, si := 5, sk := 1 })] Try.f41 markValueSMS.sh a b = markValueSB rmarkValueS a b := by kernel_rfl
theorem markValueSG_msound : ∀ k, MSound Try.prog (markValueSMSN k)
  | 0 => fun w u x n r fps h => (by cases h)
  | k + 1 => msound_of_den (m := markValueSMSN (k + 1)) (E := { tt := tt, fs := [markTextFS], ms := [markStringSMS, markRowSMS, markValueSMSN k] }) (.cons markText_callable markText_sound (.consM markStringS_callable markStringS_msound (.consM markRowS_callable markRowS_msound (.consM markValueS_callable (markValueSG_msound k) (.nil tt_ok))))) [(2, { n := 63, ty := .base .val, si := 5, sk := 1 })] (fn := Try.f41) (by kernel_rfl) fun x n => markValueS_den _ x n
theorem markValueS_msound : MSound Try.prog markValueSMS := MSound.fuel (fid := 41) (sh := ⟨false, .list (.base .val)⟩) (G := fun k x n => markValueSG k x n) (f := fun x n => markValueS x n) markValueSG_msound (fun x => siz (α := List GVal) x + 1) (fun _ _ => rfl)
theorem markReadS_callable : callable Try.prog 23 = true := by kernel_rfl
theorem markReadS_den (a : List GRead) (b : Int) : denMF { tt := tt, fs := [markTextFS], ms := [markValueSMS, markStringSMS, markRowSMS] } [(2, { n := 99, ty := .base .read, si := 5, sk := 1 })] Try.f23 markReadSMS.sh a b = markReadS a b := by kernel_rfl
theorem markReadS_msound : MSound Try.prog markReadSMS :=
  msound_of_den (E := { tt := tt, fs := [markTextFS], ms := [markValueSMS, markStringSMS, markRowSMS] }) (.cons markText_callable markText_sound (.consM markValueS_callable markValueS_msound (.consM markStringS_callable markStringS_msound (.consM markRowS_callable markRowS_msound (.nil tt_ok))))) [(2, { n := 99, ty := .base .read, si := 5, sk := 1 })] (fn := Try.f23) (by kernel_rfl) fun x n => markReadS_den x n
theorem markOpS_callable : callable Try.prog 9 = true := by kernel_rfl
theorem markOpS_den (a : List GOp) (b : Int) : denMF { tt := tt, fs := [markTextFS], ms := [markIntSMS, markReadSMS] } [(2, { n := 150, ty := .base .op, si := 5, sk := 1 })] Try.f9 markOpSMS.sh a b = markOpS a b := by kernel_rfl
theorem markOpS_msound : MSound Try.prog markOpSMS :=
  msound_of_den (E := { tt := tt, fs := [markTextFS], ms := [markIntSMS, markReadSMS] }) (.cons markText_callable markText_sound (.consM markIntS_callable markIntS_msound (.consM markReadS_callable markReadS_msound (.nil tt_ok)))) [(2, { n := 150, ty := .base .op, si := 5, sk := 1 })] (fn := Try.f9) (by kernel_rfl) fun x n => markOpS_den x n
theorem heldIntS_callable : callable Try.prog 24 = true := by kernel_rfl
theorem heldIntS_den (a : List Int) (b : Int) : denF { tt := tt, fs := [] } [(2, { n := 21, its := [.t 0 (.ro (.list (.base .int))), .t 1 (.ro (.base .int)), .t 5 (.ro (.base .int))], boxes := [], ptrs := [] })] Try.f24 heldIntSFS.ps heldIntSFS.rs heldIntSFS.ex (a, b) = heldIntS a b := by kernel_rfl
theorem heldIntS_sound : Sound Try.prog heldIntSFS :=
  sound_of_den (E := { tt := tt, fs := [] }) (.nil tt_ok) mixed_ok [(2, { n := 21, its := [.t 0 (.ro (.list (.base .int))), .t 1 (.ro (.base .int)), .t 5 (.ro (.base .int))], boxes := [], ptrs := [] })] (fn := Try.f24) (by kernel_rfl) fun x => heldIntS_den x.1 x.2
theorem heldStringS_callable : callable Try.prog 45 = true := by kernel_rfl
theorem heldStringS_den (a : List Str) (b : Int) : denF { tt := tt, fs := [markTextFS] } [(2, { n := 22, its := [.t 0 (.ro (.list (.base .str))), .t 1 (.ro (.base .int)), .t 5 (.ro (.base .int))], boxes := [], ptrs := [] })] Try.f45 heldStringSFS.ps heldStringSFS.rs heldStringSFS.ex (a, b) = heldStringS a b := by kernel_rfl
theorem heldStringS_sound : Sound Try.prog heldStringSFS :=
  sound_of_den (E := { tt := tt, fs := [markTextFS] }) (.cons markText_callable markText_sound (.nil tt_ok)) mixed_ok [(2, { n := 22, its := [.t 0 (.ro (.list (.base .str))), .t 1 (.ro (.base .int)), .t 5 (.ro (.base .int))], boxes := [], ptrs := [] })] (fn := Try.f45) (by kernel_rfl) fun x => heldStringS_den x.1 x.2
theorem heldOriginS_callable : callable Try.prog 67 = true := by kernel_rfl
theorem heldOriginS_den (a : List GOrigin) (b : Int) : denF { tt := tt, fs := [] } [(2, { n := 31, its := [.t 0 (.ro (.list (.base .origin))), .t 1 (.ro (.base .int)), .t 5 (.ro (.base .int))], boxes := [], ptrs := [] })] Try.f67 heldOriginSFS.ps heldOriginSFS.rs heldOriginSFS.ex (a, b) = heldOriginS a b := by kernel_rfl
theorem heldOriginS_sound : Sound Try.prog heldOriginSFS :=
  sound_of_den (E := { tt := tt, fs := [] }) (.nil tt_ok) mixed_ok [(2, { n := 31, its := [.t 0 (.ro (.list (.base .origin))), .t 1 (.ro (.base .int)), .t 5 (.ro (.base .int))], boxes := [], ptrs := [] })] (fn := Try.f67) (by kernel_rfl) fun x => heldOriginS_den x.1 x.2
theorem heldRowS_callable : callable Try.prog 46 = true := by kernel_rfl
theorem heldRowS_den (a : List GRow) (b : Int) : denF { tt := tt, fs := [heldIntSFS, heldOriginSFS] } [(2, { n := 31, its := [.t 0 (.ro (.list (.base .row))), .t 1 (.ro (.base .int)), .t 5 (.ro (.base .int))], boxes := [], ptrs := [] })] Try.f46 heldRowSFS.ps heldRowSFS.rs heldRowSFS.ex (a, b) = heldRowS a b := by kernel_rfl
theorem heldRowS_sound : Sound Try.prog heldRowSFS :=
  sound_of_den (E := { tt := tt, fs := [heldIntSFS, heldOriginSFS] }) (.cons heldIntS_callable heldIntS_sound (.cons heldOriginS_callable heldOriginS_sound (.nil tt_ok))) mixed_ok [(2, { n := 31, its := [.t 0 (.ro (.list (.base .row))), .t 1 (.ro (.base .int)), .t 5 (.ro (.base .int))], boxes := [], ptrs := [] })] (fn := Try.f46) (by kernel_rfl) fun x => heldRowS_den x.1 x.2
theorem heldValueS_callable : callable Try.prog 44 = true := by kernel_rfl
theorem heldValueS_den (rheldValueS : (List GVal) → Int → Option (Int)) (a : List GVal) (b : Int) : denF { tt := tt, fs := [markTextFS, heldStringSFS, heldRowSFS, { fid := 44, ps := [⟨false, .list (.base .val)⟩, ⟨false, .base .int⟩], rs := [⟨false, .base .int⟩], ex := true, fn := fun x => rheldValueS x.1 x.2 }] } [(2, { n := 77, its := [.t 0 (.ro (.list (.base .val))), .t 1 (.ro (.base .int)), .t 5 (.ro (.base .int))], boxes := [], ptrs := [] })] Try.f44 heldValueSFS.ps heldValueSFS.rs heldValueSFS.ex (a, b) = heldValueSB rheldValueS a b := by kernel_rfl
theorem heldValueSG_sound : ∀ n, Sound Try.prog (heldValueSFSN n)
  | 0 => (fun w S args x y h => by cases h)
  | n + 1 => by
    have ih := heldValueSG_sound n
    exact sound_of_den (s := heldValueSFSN (n + 1)) (E := { tt := tt, fs := [markTextFS, heldStringSFS, heldRowSFS, heldValueSFSN n] }) (.cons markText_callable markText_sound (.cons heldStringS_callable heldStringS_sound (.cons heldRowS_callable heldRowS_sound (.cons heldValueS_callable ih (.nil tt_ok))))) mixed_ok [(2, { n := 77, its := [.t 0 (.ro (.list (.base .val))), .t 1 (.ro (.base .int)), .t 5 (.ro (.base .int))], boxes := [], ptrs := [] })] (fn := Try.f44) (by kernel_rfl) fun x => heldValueS_den _ x.1 x.2
theorem heldValueS_sound : Sound Try.prog heldValueSFS := fun w S args x y h => (heldValueSG_sound (siz (α := List GVal) x.1 + 1)) w S args x y h
theorem heldReadS_callable : callable Try.prog 25 = true := by kernel_rfl
theorem heldReadS_den (a : List GRead) (b : Int) : denF { tt := tt, fs := [markTextFS, heldValueSFS, heldStringSFS, heldRowSFS] } [(2, { n := 121, its := [.t 0 (.ro (.list (.base .read))), .t 1 (.ro (.base .int)), .t 5 (.ro (.base .int))], boxes := [], ptrs := [] })] Try.f25 heldReadSFS.ps heldReadSFS.rs heldReadSFS.ex (a, b) = heldReadS a b := by kernel_rfl
theorem heldReadS_sound : Sound Try.prog heldReadSFS :=
  sound_of_den (E := { tt := tt, fs := [markTextFS, heldValueSFS, heldStringSFS, heldRowSFS] }) (.cons markText_callable markText_sound (.cons heldValueS_callable heldValueS_sound (.cons heldStringS_callable heldStringS_sound (.cons heldRowS_callable heldRowS_sound (.nil tt_ok))))) mixed_ok [(2, { n := 121, its := [.t 0 (.ro (.list (.base .read))), .t 1 (.ro (.base .int)), .t 5 (.ro (.base .int))], boxes := [], ptrs := [] })] (fn := Try.f25) (by kernel_rfl) fun x => heldReadS_den x.1 x.2
theorem heldOpS_callable : callable Try.prog 10 = true := by kernel_rfl
theorem heldOpS_den (a : List GOp) (b : Int) : denF { tt := tt, fs := [markTextFS, heldIntSFS, heldReadSFS] } [(2, { n := 184, its := [.t 0 (.ro (.list (.base .op))), .t 1 (.ro (.base .int)), .t 5 (.ro (.base .int))], boxes := [], ptrs := [] })] Try.f10 heldOpSFS.ps heldOpSFS.rs heldOpSFS.ex (a, b) = heldOpS a b := by kernel_rfl
theorem heldOpS_sound : Sound Try.prog heldOpSFS :=
  sound_of_den (E := { tt := tt, fs := [markTextFS, heldIntSFS, heldReadSFS] }) (.cons markText_callable markText_sound (.cons heldIntS_callable heldIntS_sound (.cons heldReadS_callable heldReadS_sound (.nil tt_ok)))) mixed_ok [(2, { n := 184, its := [.t 0 (.ro (.list (.base .op))), .t 1 (.ro (.base .int)), .t 5 (.ro (.base .int))], boxes := [], ptrs := [] })] (fn := Try.f10) (by kernel_rfl) fun x => heldOpS_den x.1 x.2
end Go.Proofs.Ytijhfajcbmpndaa
