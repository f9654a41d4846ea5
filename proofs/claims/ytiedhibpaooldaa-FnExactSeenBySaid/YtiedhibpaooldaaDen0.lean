/- The functions compute their models, by gen.py. -/
import Derived.Test.YtiedhibpaooldaaEnvs
namespace Go.Proofs.Ytiedhibpaooldaa
open Go.Abs Go.Proofs
set_option maxRecDepth 100000
theorem sL1In_callable : callable Try.prog 90 = true := by kernel_rfl
theorem sL1In_den (a : Int) (b : Int) (c : Int) : denF { tt := tt, fs := [] } [] Try.f90 sL1InFS.ps sL1InFS.rs sL1InFS.ex (a, b, c) = sL1In a b c := by kernel_rfl
theorem sL1In_sound : Sound Try.prog sL1InFS :=
  sound_of_den (E := { tt := tt, fs := [] }) (.nil tt_ok) mixed_ok [] (fn := Try.f90) (by kernel_rfl) fun x => sL1In_den x.1 x.2.1 x.2.2
theorem sNewReplica_callable : callable Try.prog 52 = true := by kernel_rfl
theorem sNewReplica_den (a : Int) : denF { tt := tt, fs := [sL1InFS] } [] Try.f52 sNewReplicaFS.ps sNewReplicaFS.rs sNewReplicaFS.ex a = sNewReplica a := by kernel_rfl
theorem sNewReplica_sound : Sound Try.prog sNewReplicaFS :=
  sound_of_den (E := { tt := tt, fs := [sL1InFS] }) (.cons sL1In_callable sL1In_sound (.nil tt_ok)) mixed_ok [] (fn := Try.f52) (by kernel_rfl) fun x => sNewReplica_den x
theorem iWithin_callable : callable Try.prog 100 = true := by kernel_rfl
theorem iWithin_den (a : Int) (b : Int) (c : Int) : denF { tt := tt, fs := [] } [] Try.f100 iWithinFS.ps iWithinFS.rs iWithinFS.ex (a, b, c) = iWithin a b c := by kernel_rfl
theorem iWithin_sound : Sound Try.prog iWithinFS :=
  sound_of_den (E := { tt := tt, fs := [] }) (.nil tt_ok) mixed_ok [] (fn := Try.f100) (by kernel_rfl) fun x => iWithin_den x.1 x.2.1 x.2.2
theorem iNewReplica_callable : callable Try.prog 53 = true := by kernel_rfl
theorem iNewReplica_den (a : Int) : denF { tt := tt, fs := [iWithinFS] } [] Try.f53 iNewReplicaFS.ps iNewReplicaFS.rs iNewReplicaFS.ex a = iNewReplica a := by kernel_rfl
theorem iNewReplica_sound : Sound Try.prog iNewReplicaFS :=
  sound_of_den (E := { tt := tt, fs := [iWithinFS] }) (.cons iWithin_callable iWithin_sound (.nil tt_ok)) mixed_ok [] (fn := Try.f53) (by kernel_rfl) fun x => iNewReplica_den x
theorem eqIntS_callable : callable Try.prog 19 = true := by kernel_rfl
theorem eqIntS_den (a : List Int) (b : List Int) : denF { tt := tt, fs := [] } [(4, { n := 26, its := [.t 0 (.ro (.list (.base .int))), .t 1 (.ro (.list (.base .int))), .t 5 (.ro (.base .int))], boxes := [], ptrs := [] })] Try.f19 eqIntSFS.ps eqIntSFS.rs eqIntSFS.ex (a, b) = eqIntS a b := by kernel_rfl
theorem eqIntS_sound : Sound Try.prog eqIntSFS :=
  sound_of_den (E := { tt := tt, fs := [] }) (.nil tt_ok) mixed_ok [(4, { n := 26, its := [.t 0 (.ro (.list (.base .int))), .t 1 (.ro (.list (.base .int))), .t 5 (.ro (.base .int))], boxes := [], ptrs := [] })] (fn := Try.f19) (by kernel_rfl) fun x => eqIntS_den x.1 x.2
theorem eqCell_callable : callable Try.prog 124 = true := by kernel_rfl
theorem eqCell_den (a : GCell) (b : GCell) : denF { tt := tt, fs := [] } [] Try.f124 eqCellFS.ps eqCellFS.rs eqCellFS.ex (a, b) = eqCell a b := by kernel_rfl
theorem eqCell_sound : Sound Try.prog eqCellFS :=
  sound_of_den (E := { tt := tt, fs := [] }) (.nil tt_ok) mixed_ok [] (fn := Try.f124) (by kernel_rfl) fun x => eqCell_den x.1 x.2
theorem eqEdit_callable : callable Try.prog 87 = true := by kernel_rfl
theorem eqEdit_den (a : GEdit) (b : GEdit) : denF { tt := tt, fs := [eqCellFS] } [] Try.f87 eqEditFS.ps eqEditFS.rs eqEditFS.ex (a, b) = eqEdit a b := by kernel_rfl
theorem eqEdit_sound : Sound Try.prog eqEditFS :=
  sound_of_den (E := { tt := tt, fs := [eqCellFS] }) (.cons eqCell_callable eqCell_sound (.nil tt_ok)) mixed_ok [] (fn := Try.f87) (by kernel_rfl) fun x => eqEdit_den x.1 x.2
theorem eqStringS_callable : callable Try.prog 180 = true := by kernel_rfl
theorem eqStringS_den (a : List Str) (b : List Str) : denF { tt := tt, fs := [] } [(4, { n := 26, its := [.t 0 (.ro (.list (.base .str))), .t 1 (.ro (.list (.base .str))), .t 5 (.ro (.base .int))], boxes := [], ptrs := [] })] Try.f180 eqStringSFS.ps eqStringSFS.rs eqStringSFS.ex (a, b) = eqStringS a b := by kernel_rfl
theorem eqStringS_sound : Sound Try.prog eqStringSFS :=
  sound_of_den (E := { tt := tt, fs := [] }) (.nil tt_ok) mixed_ok [(4, { n := 26, its := [.t 0 (.ro (.list (.base .str))), .t 1 (.ro (.list (.base .str))), .t 5 (.ro (.base .int))], boxes := [], ptrs := [] })] (fn := Try.f180) (by kernel_rfl) fun x => eqStringS_den x.1 x.2
theorem eqOrigin_callable : callable Try.prog 198 = true := by kernel_rfl
theorem eqOrigin_den (a : GOrigin) (b : GOrigin) : denF { tt := tt, fs := [] } [] Try.f198 eqOriginFS.ps eqOriginFS.rs eqOriginFS.ex (a, b) = eqOrigin a b := by kernel_rfl
theorem eqOrigin_sound : Sound Try.prog eqOriginFS :=
  sound_of_den (E := { tt := tt, fs := [] }) (.nil tt_ok) mixed_ok [] (fn := Try.f198) (by kernel_rfl) fun x => eqOrigin_den x.1 x.2
theorem eqOriginS_callable : callable Try.prog 196 = true := by kernel_rfl
theorem eqOriginS_den (a : List GOrigin) (b : List GOrigin) : denF { tt := tt, fs := [eqOriginFS] } [(4, { n := 27, its := [.t 0 (.ro (.list (.base .origin))), .t 1 (.ro (.list (.base .origin))), .t 5 (.ro (.base .int))], boxes := [], ptrs := [] })] Try.f196 eqOriginSFS.ps eqOriginSFS.rs eqOriginSFS.ex (a, b) = eqOriginS a b := by kernel_rfl
theorem eqOriginS_sound : Sound Try.prog eqOriginSFS :=
  sound_of_den (E := { tt := tt, fs := [eqOriginFS] }) (.cons eqOrigin_callable eqOrigin_sound (.nil tt_ok)) mixed_ok [(4, { n := 27, its := [.t 0 (.ro (.list (.base .origin))), .t 1 (.ro (.list (.base .origin))), .t 5 (.ro (.base .int))], boxes := [], ptrs := [] })] (fn := Try.f196) (by kernel_rfl) fun x => eqOriginS_den x.1 x.2
theorem eqRow_callable : callable Try.prog 193 = true := by kernel_rfl
theorem eqRow_den (a : GRow) (b : GRow) : denF { tt := tt, fs := [eqIntSFS, eqOriginSFS] } [] Try.f193 eqRowFS.ps eqRowFS.rs eqRowFS.ex (a, b) = eqRow a b := by kernel_rfl
theorem eqRow_sound : Sound Try.prog eqRowFS :=
  sound_of_den (E := { tt := tt, fs := [eqIntSFS, eqOriginSFS] }) (.cons eqIntS_callable eqIntS_sound (.cons eqOriginS_callable eqOriginS_sound (.nil tt_ok))) mixed_ok [] (fn := Try.f193) (by kernel_rfl) fun x => eqRow_den x.1 x.2
theorem eqRowS_callable : callable Try.prog 181 = true := by kernel_rfl
theorem eqRowS_den (a : List GRow) (b : List GRow) : denF { tt := tt, fs := [eqRowFS] } [(4, { n := 27, its := [.t 0 (.ro (.list (.base .row))), .t 1 (.ro (.list (.base .row))), .t 5 (.ro (.base .int))], boxes := [], ptrs := [] })] Try.f181 eqRowSFS.ps eqRowSFS.rs eqRowSFS.ex (a, b) = eqRowS a b := by kernel_rfl
theorem eqRowS_sound : Sound Try.prog eqRowSFS :=
  sound_of_den (E := { tt := tt, fs := [eqRowFS] }) (.cons eqRow_callable eqRow_sound (.nil tt_ok)) mixed_ok [(4, { n := 27, its := [.t 0 (.ro (.list (.base .row))), .t 1 (.ro (.list (.base .row))), .t 5 (.ro (.base .int))], boxes := [], ptrs := [] })] (fn := Try.f181) (by kernel_rfl) fun x => eqRowS_den x.1 x.2
theorem eqValue_callable : callable Try.prog 156 = true := by kernel_rfl
theorem eqValueS_callable : callable Try.prog 179 = true := by kernel_rfl
theorem eqValue_den (reqValue : GVal → GVal → Option (Bool)) (reqValueS : (List GVal) → (List GVal) → Option (Bool)) (a : GVal) (b : GVal) : denF { tt := tt, fs := [eqStringSFS, eqRowSFS, { fid := 156, ps := [⟨true, .base .val⟩, ⟨true, .base .val⟩], rs := [⟨false, .base .bool⟩], ex := true, fn := fun x => reqValue x.1 x.2 }, { fid := 179, ps := [⟨false, .list (.base .val)⟩, ⟨false, .list (.base .val)⟩], rs := [⟨false, .base .bool⟩], ex := true, fn := fun x => reqValueS x.1 x.2 }] } [] Try.f156 eqValueFS.ps eqValueFS.rs eqValueFS.ex (a, b) = eqValueB reqValue reqValueS a b := by kernel_rfl
theorem eqValueS_den (reqValue : GVal → GVal → Option (Bool)) (reqValueS : (List GVal) → (List GVal) → Option (Bool)) (a : List GVal) (b : List GVal) : denF { tt := tt, fs := [eqStringSFS, eqRowSFS, { fid := 156, ps := [⟨true, .base .val⟩, ⟨true, .base .val⟩], rs := [⟨false, .base .bool⟩], ex := true, fn := fun x => reqValue x.1 x.2 }, { fid := 179, ps := [⟨false, .list (.base .val)⟩, ⟨false, .list (.base .val)⟩], rs := [⟨false, .base .bool⟩], ex := true, fn := fun x => reqValueS x.1 x.2 }] } [(4, { n := 27, its := [.t 0 (.ro (.list (.base .val))), .t 1 (.ro (.list (.base .val))), .t 5 (.ro (.base .int))], boxes := [], ptrs := [] })] Try.f179 eqValueSFS.ps eqValueSFS.rs eqValueSFS.ex (a, b) = eqValueSB reqValue reqValueS a b := by kernel_rfl
theorem eqValueG_sound : ∀ n, Sound Try.prog (eqValueFSN n) ∧ Sound Try.prog (eqValueSFSN n)
  | 0 => ⟨(fun w S args x y h => by cases h), (fun w S args x y h => by cases h)⟩
  | n + 1 => by
    have ih := eqValueG_sound n
    exact ⟨sound_of_den (s := eqValueFSN (n + 1)) (E := { tt := tt, fs := [eqStringSFS, eqRowSFS, eqValueFSN n, eqValueSFSN n] }) (.cons eqStringS_callable eqStringS_sound (.cons eqRowS_callable eqRowS_sound (.cons eqValue_callable ih.1 (.cons eqValueS_callable ih.2 (.nil tt_ok))))) mixed_ok [] (fn := Try.f156) (by kernel_rfl) fun x => eqValue_den _ _ x.1 x.2, sound_of_den (s := eqValueSFSN (n + 1)) (E := { tt := tt, fs := [eqStringSFS, eqRowSFS, eqValueFSN n, eqValueSFSN n] }) (.cons eqStringS_callable eqStringS_sound (.cons eqRowS_callable eqRowS_sound (.cons eqValue_callable ih.1 (.cons eqValueS_callable ih.2 (.nil tt_ok))))) mixed_ok [(4, { n := 27, its := [.t 0 (.ro (.list (.base .val))), .t 1 (.ro (.list (.base .val))), .t 5 (.ro (.base .int))], boxes := [], ptrs := [] })] (fn := Try.f179) (by kernel_rfl) fun x => eqValueS_den _ _ x.1 x.2⟩
theorem eqValue_sound : Sound Try.prog eqValueFS := fun w S args x y h => (eqValueG_sound (siz (α := GVal) x.1 + siz (α := GVal) x.2 + 1)).1 w S args x y h
theorem eqValueS_sound : Sound Try.prog eqValueSFS := fun w S args x y h => (eqValueG_sound (siz (α := List GVal) x.1 + siz (α := List GVal) x.2 + 1)).2 w S args x y h
theorem eqRead_callable : callable Try.prog 132 = true := by kernel_rfl
theorem eqRead_den (a : GRead) (b : GRead) : denF { tt := tt, fs := [eqValueFS] } [] Try.f132 eqReadFS.ps eqReadFS.rs eqReadFS.ex (a, b) = eqRead a b := by kernel_rfl
theorem eqRead_sound : Sound Try.prog eqReadFS :=
  sound_of_den (E := { tt := tt, fs := [eqValueFS] }) (.cons eqValue_callable eqValue_sound (.nil tt_ok)) mixed_ok [] (fn := Try.f132) (by kernel_rfl) fun x => eqRead_den x.1 x.2
theorem eqReadS_callable : callable Try.prog 95 = true := by kernel_rfl
theorem eqReadS_den (a : List GRead) (b : List GRead) : denF { tt := tt, fs := [eqReadFS] } [(4, { n := 27, its := [.t 0 (.ro (.list (.base .read))), .t 1 (.ro (.list (.base .read))), .t 5 (.ro (.base .int))], boxes := [], ptrs := [] })] Try.f95 eqReadSFS.ps eqReadSFS.rs eqReadSFS.ex (a, b) = eqReadS a b := by kernel_rfl
theorem eqReadS_sound : Sound Try.prog eqReadSFS :=
  sound_of_den (E := { tt := tt, fs := [eqReadFS] }) (.cons eqRead_callable eqRead_sound (.nil tt_ok)) mixed_ok [(4, { n := 27, its := [.t 0 (.ro (.list (.base .read))), .t 1 (.ro (.list (.base .read))), .t 5 (.ro (.base .int))], boxes := [], ptrs := [] })] (fn := Try.f95) (by kernel_rfl) fun x => eqReadS_den x.1 x.2
theorem eqOp_callable : callable Try.prog 40 = true := by kernel_rfl
theorem eqOp_den (a : GOp) (b : GOp) : denF { tt := tt, fs := [eqIntSFS, eqEditFS, eqReadSFS] } [] Try.f40 eqOpFS.ps eqOpFS.rs eqOpFS.ex (a, b) = eqOp a b := by kernel_rfl
theorem eqOp_sound : Sound Try.prog eqOpFS :=
  sound_of_den (E := { tt := tt, fs := [eqIntSFS, eqEditFS, eqReadSFS] }) (.cons eqIntS_callable eqIntS_sound (.cons eqEdit_callable eqEdit_sound (.cons eqReadS_callable eqReadS_sound (.nil tt_ok)))) mixed_ok [] (fn := Try.f40) (by kernel_rfl) fun x => eqOp_den x.1 x.2
theorem eqOpS_callable : callable Try.prog 41 = true := by kernel_rfl
theorem eqOpS_den (a : List GOp) (b : List GOp) : denF { tt := tt, fs := [eqOpFS] } [(4, { n := 27, its := [.t 0 (.ro (.list (.base .op))), .t 1 (.ro (.list (.base .op))), .t 5 (.ro (.base .int))], boxes := [], ptrs := [] })] Try.f41 eqOpSFS.ps eqOpSFS.rs eqOpSFS.ex (a, b) = eqOpS a b := by kernel_rfl
theorem eqOpS_sound : Sound Try.prog eqOpSFS :=
  sound_of_den (E := { tt := tt, fs := [eqOpFS] }) (.cons eqOp_callable eqOp_sound (.nil tt_ok)) mixed_ok [(4, { n := 27, its := [.t 0 (.ro (.list (.base .op))), .t 1 (.ro (.list (.base .op))), .t 5 (.ro (.base .int))], boxes := [], ptrs := [] })] (fn := Try.f41) (by kernel_rfl) fun x => eqOpS_den x.1 x.2
theorem eqReplica_callable : callable Try.prog 54 = true := by kernel_rfl
theorem eqReplica_den (a : GReplica) (b : GReplica) : denF { tt := tt, fs := [eqOpSFS] } [] Try.f54 eqReplicaFS.ps eqReplicaFS.rs eqReplicaFS.ex (a, b) = eqReplica a b := by kernel_rfl
theorem eqReplica_sound : Sound Try.prog eqReplicaFS :=
  sound_of_den (E := { tt := tt, fs := [eqOpSFS] }) (.cons eqOpS_callable eqOpS_sound (.nil tt_ok)) mixed_ok [] (fn := Try.f54) (by kernel_rfl) fun x => eqReplica_den x.1 x.2
theorem markIntS_callable : callable Try.prog 22 = true := by kernel_rfl
theorem markIntS_den (a : List Int) (b : Int) : denMF { tt := tt, fs := [] } [(2, { n := 19, ty := .base .int, si := 5, sk := 1 })] Try.f22 markIntSMS.sh a b = markIntS a b := by kernel_rfl
theorem markIntS_msound : MSound Try.prog markIntSMS :=
  msound_of_den (E := { tt := tt, fs := [] }) (.nil tt_ok) [(2, { n := 19, ty := .base .int, si := 5, sk := 1 })] (fn := Try.f22) (by kernel_rfl) fun x n => markIntS_den x n
theorem markText_callable : callable Try.prog 103 = true := by kernel_rfl
theorem markText_den (a : Int) : denF { tt := tt, fs := [] } [(4, { n := 20, its := [.t 0 (.ro (.base .int)), .t 3 (.ro (.base .str))], boxes := [], ptrs := [] })] Try.f103 markTextFS.ps markTextFS.rs markTextFS.ex a = markText a := by kernel_rfl
theorem markText_sound : Sound Try.prog markTextFS :=
  sound_of_den (E := { tt := tt, fs := [] }) (.nil tt_ok) mixed_ok [(4, { n := 20, its := [.t 0 (.ro (.base .int)), .t 3 (.ro (.base .str))], boxes := [], ptrs := [] })] (fn := Try.f103) (by kernel_rfl) fun x => markText_den x
theorem markStringS_callable : callable Try.prog 162 = true := by kernel_rfl
theorem markStringS_den (a : List Str) (b : Int) : denMF { tt := tt, fs := [markTextFS] } [(2, { n := 20, ty := .base .str, si := 5, sk := 1 })] Try.f162 markStringSMS.sh a b = markStringS a b := by kernel_rfl
theorem markStringS_msound : MSound Try.prog markStringSMS :=
  msound_of_den (E := { tt := tt, fs := [markTextFS] }) (.cons markText_callable markText_sound (.nil tt_ok)) [(2, { n := 20, ty := .base .str, si := 5, sk := 1 })] (fn := Try.f162) (by kernel_rfl) fun x n => markStringS_den x n
theorem markOriginS_callable : callable Try.prog 182 = true := by kernel_rfl
theorem markOriginS_den (a : List GOrigin) (b : Int) : denMF { tt := tt, fs := [] } [(2, { n := 27, ty := .base .origin, si := 5, sk := 1 })] Try.f182 markOriginSMS.sh a b = markOriginS a b := by kernel_rfl
theorem markOriginS_msound : MSound Try.prog markOriginSMS :=
  msound_of_den (E := { tt := tt, fs := [] }) (.nil tt_ok) [(2, { n := 27, ty := .base .origin, si := 5, sk := 1 })] (fn := Try.f182) (by kernel_rfl) fun x n => markOriginS_den x n
theorem markRowS_callable : callable Try.prog 163 = true := by kernel_rfl
theorem markRowS_den (a : List GRow) (b : Int) : denMF { tt := tt, fs := [], ms := [markIntSMS, markOriginSMS] } [(2, { n := 27, ty := .base .row, si := 5, sk := 1 })] Try.f163 markRowSMS.sh a b = markRowS a b := by kernel_rfl
theorem markRowS_msound : MSound Try.prog markRowSMS :=
  msound_of_den (E := { tt := tt, fs := [], ms := [markIntSMS, markOriginSMS] }) (.consM markIntS_callable markIntS_msound (.consM markOriginS_callable markOriginS_msound (.nil tt_ok))) [(2, { n := 27, ty := .base .row, si := 5, sk := 1 })] (fn := Try.f163) (by kernel_rfl) fun x n => markRowS_den x n
theorem markValueS_callable : callable Try.prog 161 = true := by kernel_rfl
theorem markValueS_den (rmarkValueS : (List GVal) → Int → Option (List GVal × Int)) (a : List GVal) (b : Int) : denMF { tt := tt, fs := [markTextFS], ms := [markStringSMS, markRowSMS, { fid := 161, sh := ⟨false, .list (.base .val)⟩, fn := fun x n => rmarkValueS x n }] } [(2, { n := 63, ty := .base .val, si := 5, sk := 1 })] Try.f161 markValueSMS.sh a b = markValueSB rmarkValueS a b := by kernel_rfl
theorem markValueSG_msound : ∀ k, MSound Try.prog (markValueSMSN k)
  | 0 => fun w u x n r fps h => (by cases h)
  | k + 1 => msound_of_den (m := markValueSMSN (k + 1)) (E := { tt := tt, fs := [markTextFS], ms := [markStringSMS, markRowSMS, markValueSMSN k] }) (.cons markText_callable markText_sound (.consM markStringS_callable markStringS_msound (.consM markRowS_callable markRowS_msound (.consM markValueS_callable (markValueSG_msound k) (.nil tt_ok))))) [(2, { n := 63, ty := .base .val, si := 5, sk := 1 })] (fn := Try.f161) (by kernel_rfl) fun x n => markValueS_den _ x n
theorem markValueS_msound : MSound Try.prog markValueSMS := MSound.fuel (fid := 161) (sh := ⟨false, .list (.base .val)⟩) (G := fun k x n => markValueSG k x n) (f := fun x n => markValueS x n) markValueSG_msound (fun x => siz (α := List GVal) x + 1) (fun _ _ => rfl)
theorem markReadS_callable : callable Try.prog 140 = true := by kernel_rfl
theorem markReadS_den (a : List GRead) (b : Int) : denMF { tt := tt, fs := [markTextFS], ms := [markValueSMS, markStringSMS, markRowSMS] } [(2, { n := 99, ty := .base .read, si := 5, sk := 1 })] Try.f140 markReadSMS.sh a b = markReadS a b := by kernel_rfl
theorem markReadS_msound : MSound Try.prog markReadSMS :=
  msound_of_den (E := { tt := tt, fs := [markTextFS], ms := [markValueSMS, markStringSMS, markRowSMS] }) (.cons markText_callable markText_sound (.consM markValueS_callable markValueS_msound (.consM markStringS_callable markStringS_msound (.consM markRowS_callable markRowS_msound (.nil tt_ok))))) [(2, { n := 99, ty := .base .read, si := 5, sk := 1 })] (fn := Try.f140) (by kernel_rfl) fun x n => markReadS_den x n
theorem markOpS_callable : callable Try.prog 109 = true := by kernel_rfl
theorem markOpS_den (a : List GOp) (b : Int) : denMF { tt := tt, fs := [markTextFS], ms := [markIntSMS, markReadSMS] } [(2, { n := 150, ty := .base .op, si := 5, sk := 1 })] Try.f109 markOpSMS.sh a b = markOpS a b := by kernel_rfl
theorem markOpS_msound : MSound Try.prog markOpSMS :=
  msound_of_den (E := { tt := tt, fs := [markTextFS], ms := [markIntSMS, markReadSMS] }) (.cons markText_callable markText_sound (.consM markIntS_callable markIntS_msound (.consM markReadS_callable markReadS_msound (.nil tt_ok)))) [(2, { n := 150, ty := .base .op, si := 5, sk := 1 })] (fn := Try.f109) (by kernel_rfl) fun x n => markOpS_den x n
theorem markReplica_callable : callable Try.prog 55 = true := by kernel_rfl
theorem markReplica_den (a : GReplica) (b : Int) : denMF { tt := tt, fs := [], ms := [markOpSMS] } [] Try.f55 markReplicaMS.sh a b = markReplica a b := by kernel_rfl
theorem markReplica_msound : MSound Try.prog markReplicaMS :=
  msound_of_den (E := { tt := tt, fs := [], ms := [markOpSMS] }) (.consM markOpS_callable markOpS_msound (.nil tt_ok)) [] (fn := Try.f55) (by kernel_rfl) fun x n => markReplica_den x n
theorem heldIntS_callable : callable Try.prog 23 = true := by kernel_rfl
theorem heldIntS_den (a : List Int) (b : Int) : denF { tt := tt, fs := [] } [(2, { n := 21, its := [.t 0 (.ro (.list (.base .int))), .t 1 (.ro (.base .int)), .t 5 (.ro (.base .int))], boxes := [], ptrs := [] })] Try.f23 heldIntSFS.ps heldIntSFS.rs heldIntSFS.ex (a, b) = heldIntS a b := by kernel_rfl
theorem heldIntS_sound : Sound Try.prog heldIntSFS :=
  sound_of_den (E := { tt := tt, fs := [] }) (.nil tt_ok) mixed_ok [(2, { n := 21, its := [.t 0 (.ro (.list (.base .int))), .t 1 (.ro (.base .int)), .t 5 (.ro (.base .int))], boxes := [], ptrs := [] })] (fn := Try.f23) (by kernel_rfl) fun x => heldIntS_den x.1 x.2
theorem heldStringS_callable : callable Try.prog 165 = true := by kernel_rfl
theorem heldStringS_den (a : List Str) (b : Int) : denF { tt := tt, fs := [markTextFS] } [(2, { n := 22, its := [.t 0 (.ro (.list (.base .str))), .t 1 (.ro (.base .int)), .t 5 (.ro (.base .int))], boxes := [], ptrs := [] })] Try.f165 heldStringSFS.ps heldStringSFS.rs heldStringSFS.ex (a, b) = heldStringS a b := by kernel_rfl
theorem heldStringS_sound : Sound Try.prog heldStringSFS :=
  sound_of_den (E := { tt := tt, fs := [markTextFS] }) (.cons markText_callable markText_sound (.nil tt_ok)) mixed_ok [(2, { n := 22, its := [.t 0 (.ro (.list (.base .str))), .t 1 (.ro (.base .int)), .t 5 (.ro (.base .int))], boxes := [], ptrs := [] })] (fn := Try.f165) (by kernel_rfl) fun x => heldStringS_den x.1 x.2
end Go.Proofs.Ytiedhibpaooldaa
