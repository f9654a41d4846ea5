/- The functions compute their models, by gen.py. -/
import Derived.Test.YtmfhbmfadapdbaaDen4
namespace Go.Proofs.Ytmfhbmfadapdbaa
open Go.Abs Go.Proofs
set_option maxRecDepth 100000
theorem markStringS_callable : callable Try.prog 159 = true := by kernel_rfl
theorem markStringS_den (a : List Str) (b : Int) : denMF { tt := tt, fs := [markTextFS] } [(2, { n := 20, ty := .base .str, si := 5, sk := 1 })] Try.f159 markStringSMS.sh a b = markStringS a b := by kernel_rfl
theorem markStringS_msound : MSound Try.prog markStringSMS :=
  msound_of_den (E := { tt := tt, fs := [markTextFS] }) (.cons markText_callable markText_sound (.nil tt_ok)) [(2, { n := 20, ty := .base .str, si := 5, sk := 1 })] (fn := Try.f159) (by kernel_rfl) fun x n => markStringS_den x n
theorem markOriginS_callable : callable Try.prog 190 = true := by kernel_rfl
theorem markOriginS_den (a : List GOrigin) (b : Int) : denMF { tt := tt, fs := [] } [(2, { n := 27, ty := .base .origin, si := 5, sk := 1 })] Try.f190 markOriginSMS.sh a b = markOriginS a b := by kernel_rfl
theorem markOriginS_msound : MSound Try.prog markOriginSMS :=
  msound_of_den (E := { tt := tt, fs := [] }) (.nil tt_ok) [(2, { n := 27, ty := .base .origin, si := 5, sk := 1 })] (fn := Try.f190) (by kernel_rfl) fun x n => markOriginS_den x n
theorem markRowS_callable : callable Try.prog 160 = true := by kernel_rfl
theorem markRowS_den (a : List GRow) (b : Int) : denMF { tt := tt, fs := [], ms := [markIntSMS, markOriginSMS] } [(2, { n := 27, ty := .base .row, si := 5, sk := 1 })] Try.f160 markRowSMS.sh a b = markRowS a b := by kernel_rfl
theorem markRowS_msound : MSound Try.prog markRowSMS :=
  msound_of_den (E := { tt := tt, fs := [], ms := [markIntSMS, markOriginSMS] }) (.consM markIntS_callable markIntS_msound (.consM markOriginS_callable markOriginS_msound (.nil tt_ok))) [(2, { n := 27, ty := .base .row, si := 5, sk := 1 })] (fn := Try.f160) (by kernel_rfl) fun x n => markRowS_den x n
theorem markValueS_callable : callable Try.prog 158 = true := by kernel_rfl
theorem markValueS_den (rmarkValueS : (List GVal) → Int → Option (List GVal × Int)) (a : List GVal) (b : Int) : denMF { tt := tt, fs := [markTextFS], ms := [markStringSMS, markRowSMS, { fid := 158, sh := ⟨false, .list (.base .val)⟩, fn := fun x n => rmarkValueS x n }] } [(2, { n := 63, ty := .base .val, si := 5, sk := 1 })] Try.f158 markValueSMS.sh a b = markValueSB rmarkValueS a b := by kernel_rfl
theorem markValueSG_msound : ∀ k, MSound Try.prog (markValueSMSN k)
  | 0 => fun w u x n r fps h => (by cases h)
  | k + 1 => msound_of_den (m := markValueSMSN (k + 1)) (E := { tt := tt, fs := [markTextFS], ms := [markStringSMS, markRowSMS, markValueSMSN k] }) (.cons markText_callable markText_sound (.consM markStringS_callable markStringS_msound (.consM markRowS_callable markRowS_msound (.consM markValueS_callable (markValueSG_msound k) (.nil tt_ok))))) [(2, { n := 63, ty := .base .val, si := 5, sk := 1 })] (fn := Try.f158) (by kernel_rfl) fun x n => markValueS_den _ x n
theorem markValueS_msound : MSound Try.prog markValueSMS := MSound.fuel (fid := 158) (sh := ⟨false, .list (.base .val)⟩) (G := fun k x n => markValueSG k x n) (f := fun x n => markValueS x n) markValueSG_msound (fun x => siz (α := List GVal) x + 1) (fun _ _ => rfl)
theorem markReadS_callable : callable Try.prog 104 = true := by kernel_rfl
theorem markReadS_den (a : List GRead) (b : Int) : denMF { tt := tt, fs := [markTextFS], ms := [markValueSMS, markStringSMS, markRowSMS] } [(2, { n := 99, ty := .base .read, si := 5, sk := 1 })] Try.f104 markReadSMS.sh a b = markReadS a b := by kernel_rfl
theorem markReadS_msound : MSound Try.prog markReadSMS :=
  msound_of_den (E := { tt := tt, fs := [markTextFS], ms := [markValueSMS, markStringSMS, markRowSMS] }) (.cons markText_callable markText_sound (.consM markValueS_callable markValueS_msound (.consM markStringS_callable markStringS_msound (.consM markRowS_callable markRowS_msound (.nil tt_ok))))) [(2, { n := 99, ty := .base .read, si := 5, sk := 1 })] (fn := Try.f104) (by kernel_rfl) fun x n => markReadS_den x n
theorem markOpS_callable : callable Try.prog 46 = true := by kernel_rfl
theorem markOpS_den (a : List GOp) (b : Int) : denMF { tt := tt, fs := [markTextFS], ms := [markIntSMS, markReadSMS] } [(2, { n := 150, ty := .base .op, si := 5, sk := 1 })] Try.f46 markOpSMS.sh a b = markOpS a b := by kernel_rfl
theorem markOpS_msound : MSound Try.prog markOpSMS :=
  msound_of_den (E := { tt := tt, fs := [markTextFS], ms := [markIntSMS, markReadSMS] }) (.cons markText_callable markText_sound (.consM markIntS_callable markIntS_msound (.consM markReadS_callable markReadS_msound (.nil tt_ok)))) [(2, { n := 150, ty := .base .op, si := 5, sk := 1 })] (fn := Try.f46) (by kernel_rfl) fun x n => markOpS_den x n
theorem markReplica_callable : callable Try.prog 44 = true := by kernel_rfl
theorem markReplica_den (a : GReplica) (b : Int) : denMF { tt := tt, fs := [], ms := [markOpSMS] } [] Try.f44 markReplicaMS.sh a b = markReplica a b := by kernel_rfl
theorem markReplica_msound : MSound Try.prog markReplicaMS :=
  msound_of_den (E := { tt := tt, fs := [], ms := [markOpSMS] }) (.consM markOpS_callable markOpS_msound (.nil tt_ok)) [] (fn := Try.f44) (by kernel_rfl) fun x n => markReplica_den x n
theorem heldIntS_callable : callable Try.prog 105 = true := by kernel_rfl
theorem heldIntS_den (a : List Int) (b : Int) : denF { tt := tt, fs := [] } [(2, { n := 21, its := [.t 0 (.ro (.list (.base .int))), .t 1 (.ro (.base .int)), .t 5 (.ro (.base .int))], boxes := [], ptrs := [] })] Try.f105 heldIntSFS.ps heldIntSFS.rs heldIntSFS.ex (a, b) = heldIntS a b := by kernel_rfl
theorem heldIntS_sound : Sound Try.prog heldIntSFS :=
  sound_of_den (E := { tt := tt, fs := [] }) (.nil tt_ok) mixed_ok [(2, { n := 21, its := [.t 0 (.ro (.list (.base .int))), .t 1 (.ro (.base .int)), .t 5 (.ro (.base .int))], boxes := [], ptrs := [] })] (fn := Try.f105) (by kernel_rfl) fun x => heldIntS_den x.1 x.2
theorem heldStringS_callable : callable Try.prog 162 = true := by kernel_rfl
theorem heldStringS_den (a : List Str) (b : Int) : denF { tt := tt, fs := [markTextFS] } [(2, { n := 22, its := [.t 0 (.ro (.list (.base .str))), .t 1 (.ro (.base .int)), .t 5 (.ro (.base .int))], boxes := [], ptrs := [] })] Try.f162 heldStringSFS.ps heldStringSFS.rs heldStringSFS.ex (a, b) = heldStringS a b := by kernel_rfl
theorem heldStringS_sound : Sound Try.prog heldStringSFS :=
  sound_of_den (E := { tt := tt, fs := [markTextFS] }) (.cons markText_callable markText_sound (.nil tt_ok)) mixed_ok [(2, { n := 22, its := [.t 0 (.ro (.list (.base .str))), .t 1 (.ro (.base .int)), .t 5 (.ro (.base .int))], boxes := [], ptrs := [] })] (fn := Try.f162) (by kernel_rfl) fun x => heldStringS_den x.1 x.2
theorem heldOriginS_callable : callable Try.prog 191 = true := by kernel_rfl
theorem heldOriginS_den (a : List GOrigin) (b : Int) : denF { tt := tt, fs := [] } [(2, { n := 31, its := [.t 0 (.ro (.list (.base .origin))), .t 1 (.ro (.base .int)), .t 5 (.ro (.base .int))], boxes := [], ptrs := [] })] Try.f191 heldOriginSFS.ps heldOriginSFS.rs heldOriginSFS.ex (a, b) = heldOriginS a b := by kernel_rfl
theorem heldOriginS_sound : Sound Try.prog heldOriginSFS :=
  sound_of_den (E := { tt := tt, fs := [] }) (.nil tt_ok) mixed_ok [(2, { n := 31, its := [.t 0 (.ro (.list (.base .origin))), .t 1 (.ro (.base .int)), .t 5 (.ro (.base .int))], boxes := [], ptrs := [] })] (fn := Try.f191) (by kernel_rfl) fun x => heldOriginS_den x.1 x.2
theorem heldRowS_callable : callable Try.prog 163 = true := by kernel_rfl
theorem heldRowS_den (a : List GRow) (b : Int) : denF { tt := tt, fs := [heldIntSFS, heldOriginSFS] } [(2, { n := 31, its := [.t 0 (.ro (.list (.base .row))), .t 1 (.ro (.base .int)), .t 5 (.ro (.base .int))], boxes := [], ptrs := [] })] Try.f163 heldRowSFS.ps heldRowSFS.rs heldRowSFS.ex (a, b) = heldRowS a b := by kernel_rfl
theorem heldRowS_sound : Sound Try.prog heldRowSFS :=
  sound_of_den (E := { tt := tt, fs := [heldIntSFS, heldOriginSFS] }) (.cons heldIntS_callable heldIntS_sound (.cons heldOriginS_callable heldOriginS_sound (.nil tt_ok))) mixed_ok [(2, { n := 31, its := [.t 0 (.ro (.list (.base .row))), .t 1 (.ro (.base .int)), .t 5 (.ro (.base .int))], boxes := [], ptrs := [] })] (fn := Try.f163) (by kernel_rfl) fun x => heldRowS_den x.1 x.2
theorem heldValueS_callable : callable Try.prog 161 = true := by kernel_rfl
theorem heldValueS_den (rheldValueS : (List GVal) → Int → Option (Int)) (a : List GVal) (b : Int) : denF { tt := tt, fs := [markTextFS, heldStringSFS, heldRowSFS, { fid := 161, ps := [⟨false, .list (.base .val)⟩, ⟨false, .base .int⟩], rs := [⟨false, .base .int⟩], ex := true, fn := fun x => rheldValueS x.1 x.2 }] } [(2, { n := 77, its := [.t 0 (.ro (.list (.base .val))), .t 1 (.ro (.base .int)), .t 5 (.ro (.base .int))], boxes := [], ptrs := [] })] Try.f161 heldValueSFS.ps heldValueSFS.rs heldValueSFS.ex (a, b) = heldValueSB rheldValueS a b := by kernel_rfl
theorem heldValueSG_sound : ∀ n, Sound Try.prog (heldValueSFSN n)
  | 0 => (fun w S args x y h => by cases h)
  | n + 1 => by
    have ih := heldValueSG_sound n
    exact sound_of_den (s := heldValueSFSN (n + 1)) (E := { tt := tt, fs := [markTextFS, heldStringSFS, heldRowSFS, heldValueSFSN n] }) (.cons markText_callable markText_sound (.cons heldStringS_callable heldStringS_sound (.cons heldRowS_callable heldRowS_sound (.cons heldValueS_callable ih (.nil tt_ok))))) mixed_ok [(2, { n := 77, its := [.t 0 (.ro (.list (.base .val))), .t 1 (.ro (.base .int)), .t 5 (.ro (.base .int))], boxes := [], ptrs := [] })] (fn := Try.f161) (by kernel_rfl) fun x => heldValueS_den _ x.1 x.2
theorem heldValueS_sound : Sound Try.prog heldValueSFS := fun w S args x y h => (heldValueSG_sound (siz (α := List GVal) x.1 + 1)) w S args x y h
theorem heldReadS_callable : callable Try.prog 106 = true := by kernel_rfl
theorem heldReadS_den (a : List GRead) (b : Int) : denF { tt := tt, fs := [markTextFS, heldValueSFS, heldStringSFS, heldRowSFS] } [(2, { n := 121, its := [.t 0 (.ro (.list (.base .read))), .t 1 (.ro (.base .int)), .t 5 (.ro (.base .int))], boxes := [], ptrs := [] })] Try.f106 heldReadSFS.ps heldReadSFS.rs heldReadSFS.ex (a, b) = heldReadS a b := by kernel_rfl
theorem heldReadS_sound : Sound Try.prog heldReadSFS :=
  sound_of_den (E := { tt := tt, fs := [markTextFS, heldValueSFS, heldStringSFS, heldRowSFS] }) (.cons markText_callable markText_sound (.cons heldValueS_callable heldValueS_sound (.cons heldStringS_callable heldStringS_sound (.cons heldRowS_callable heldRowS_sound (.nil tt_ok))))) mixed_ok [(2, { n := 121, its := [.t 0 (.ro (.list (.base .read))), .t 1 (.ro (.base .int)), .t 5 (.ro (.base .int))], boxes := [], ptrs := [] })] (fn := Try.f106) (by kernel_rfl) fun x => heldReadS_den x.1 x.2
theorem heldOpS_callable : callable Try.prog 47 = true := by kernel_rfl
theorem heldOpS_den (a : List GOp) (b : Int) : denF { tt := tt, fs := [markTextFS, heldIntSFS, heldReadSFS] } [(2, { n := 184, its := [.t 0 (.ro (.list (.base .op))), .t 1 (.ro (.base .int)), .t 5 (.ro (.base .int))], boxes := [], ptrs := [] })] Try.f47 heldOpSFS.ps heldOpSFS.rs heldOpSFS.ex (a, b) = heldOpS a b := by kernel_rfl
theorem heldOpS_sound : Sound Try.prog heldOpSFS :=
  sound_of_den (E := { tt := tt, fs := [markTextFS, heldIntSFS, heldReadSFS] }) (.cons markText_callable markText_sound (.cons heldIntS_callable heldIntS_sound (.cons heldReadS_callable heldReadS_sound (.nil tt_ok)))) mixed_ok [(2, { n := 184, its := [.t 0 (.ro (.list (.base .op))), .t 1 (.ro (.base .int)), .t 5 (.ro (.base .int))], boxes := [], ptrs := [] })] (fn := Try.f47) (by kernel_rfl) fun x => heldOpS_den x.1 x.2
theorem FnExactMissingOps_callable : callable Try.prog 8 = true := by kernel_rfl
theorem FnExactMissingOps_den (a : GReplica) (b : List Int) : denF { tt := tt, fs := [szReplicaFS, sMissingOpsFS, toReplicaFS, toIntSFS, iMissingOpsFS, eqOpSFS, eqReplicaFS, eqIntSFS, heldOpSFS], ms := [markReplicaMS, markIntSMS, markOpSMS], trees := true } [] Try.f8 FnExactMissingOpsFS.ps FnExactMissingOpsFS.rs FnExactMissingOpsFS.ex (a, b) = FnExactMissingOps a b := by kernel_rfl
theorem FnExactMissingOps_sound : Sound Try.prog FnExactMissingOpsFS :=
  sound_of_den (E := { tt := tt, fs := [szReplicaFS, sMissingOpsFS, toReplicaFS, toIntSFS, iMissingOpsFS, eqOpSFS, eqReplicaFS, eqIntSFS, heldOpSFS], ms := [markReplicaMS, markIntSMS, markOpSMS], trees := true }) (.cons szReplica_callable szReplica_sound (.cons sMissingOps_callable sMissingOps_sound (.cons toReplica_callable toReplica_sound (.cons toIntS_callable toIntS_sound (.cons iMissingOps_callable iMissingOps_sound (.cons eqOpS_callable eqOpS_sound (.cons eqReplica_callable eqReplica_sound (.cons eqIntS_callable eqIntS_sound (.cons heldOpS_callable heldOpS_sound (.consM markReplica_callable markReplica_msound (.consM markIntS_callable markIntS_msound (.consM markOpS_callable markOpS_msound (.nil tt_ok))))))))))))) mixed_ok [] (fn := Try.f8) (by kernel_rfl) fun x => FnExactMissingOps_den x.1 x.2
theorem sLastTime_callable : callable Try.prog 123 = true := by kernel_rfl
theorem sLastTime_den (a : List GOp) : denF { tt := tt, fs := [sL1MaxFS] } [(3, { n := 19, its := [.t 0 (.ro (.list (.base .op))), .t 3 (.ro (.base .int)), .t 4 (.ro (.base .int))], boxes := [], ptrs := [] })] Try.f123 sLastTimeFS.ps sLastTimeFS.rs sLastTimeFS.ex a = sLastTime a := by kernel_rfl
theorem sLastTime_sound : Sound Try.prog sLastTimeFS :=
  sound_of_den (E := { tt := tt, fs := [sL1MaxFS] }) (.cons sL1Max_callable sL1Max_sound (.nil tt_ok)) mixed_ok [(3, { n := 19, its := [.t 0 (.ro (.list (.base .op))), .t 3 (.ro (.base .int)), .t 4 (.ro (.base .int))], boxes := [], ptrs := [] })] (fn := Try.f123) (by kernel_rfl) fun x => sLastTime_den x
theorem sSeenBy_callable : callable Try.prog 124 = true := by kernel_rfl
theorem sSeenBy_den (a : GReplica) : denF { tt := tt, fs := [sCountByFS] } [(3, { n := 18, its := [.b 1 0 (.ro (.base .int)), .b 1 1 (.ro (.list (.base .op))), .t 3 (.own (.base .int) true true 0), .t 4 (.ro (.base .int))], boxes := [(1, 2)], ptrs := [(1, 1, 0)] })] Try.f124 sSeenByFS.ps sSeenByFS.rs sSeenByFS.ex a = sSeenBy a := by kernel_rfl
theorem sSeenBy_sound : Sound Try.prog sSeenByFS :=
  sound_of_den (E := { tt := tt, fs := [sCountByFS] }) (.cons sCountBy_callable sCountBy_sound (.nil tt_ok)) mixed_ok [(3, { n := 18, its := [.b 1 0 (.ro (.base .int)), .b 1 1 (.ro (.list (.base .op))), .t 3 (.own (.base .int) true true 0), .t 4 (.ro (.base .int))], boxes := [(1, 2)], ptrs := [(1, 1, 0)] })] (fn := Try.f124) (by kernel_rfl) fun x => sSeenBy_den x
theorem sL41Ops_callable : callable Try.prog 172 = true := by kernel_rfl
theorem sL41Ops_den (a : List GOp) : denF { tt := tt, fs := [sL41CopyFS] } [(3, { n := 21, its := [.t 0 (.ro (.list (.base .op))), .t 3 (.own (.base .op) true true 0), .t 4 (.ro (.base .int))], boxes := [], ptrs := [] })] Try.f172 sL41OpsFS.ps sL41OpsFS.rs sL41OpsFS.ex a = sL41Ops a := by kernel_rfl
theorem sL41Ops_sound : Sound Try.prog sL41OpsFS :=
  sound_of_den (E := { tt := tt, fs := [sL41CopyFS] }) (.cons sL41Copy_callable sL41Copy_sound (.nil tt_ok)) mixed_ok [(3, { n := 21, its := [.t 0 (.ro (.list (.base .op))), .t 3 (.own (.base .op) true true 0), .t 4 (.ro (.base .int))], boxes := [], ptrs := [] })] (fn := Try.f172) (by kernel_rfl) fun x => sL41Ops_den x
theorem sL43Copy_callable : callable Try.prog 125 = true := by kernel_rfl
theorem sL43Copy_den (a : GReplica) : denF { tt := tt, fs := [sL41OpsFS] } [] Try.f125 sL43CopyFS.ps sL43CopyFS.rs sL43CopyFS.ex a = sL43Copy a := by kernel_rfl
theorem sL43Copy_sound : Sound Try.prog sL43CopyFS :=
  sound_of_den (E := { tt := tt, fs := [sL41OpsFS] }) (.cons sL41Ops_callable sL41Ops_sound (.nil tt_ok)) mixed_ok [] (fn := Try.f125) (by kernel_rfl) fun x => sL43Copy_den x
theorem sOpBefore_callable : callable Try.prog 134 = true := by kernel_rfl
theorem sOpBefore_den (a : GOp) (b : GOp) : denF { tt := tt, fs := [] } [] Try.f134 sOpBeforeFS.ps sOpBeforeFS.rs sOpBeforeFS.ex (a, b) = sOpBefore a b := by kernel_rfl
theorem sOpBefore_sound : Sound Try.prog sOpBeforeFS :=
  sound_of_den (E := { tt := tt, fs := [] }) (.nil tt_ok) mixed_ok [] (fn := Try.f134) (by kernel_rfl) fun x => sOpBefore_den x.1 x.2
theorem sL41Seen_callable : callable Try.prog 222 = true := by kernel_rfl
theorem sL41Seen_den (a : List Int) : denF { tt := tt, fs := [sL1InFS] } [(2, { n := 19, its := [.t 0 (.ro (.list (.base .int))), .t 3 (.ro (.base .int))], boxes := [], ptrs := [] })] Try.f222 sL41SeenFS.ps sL41SeenFS.rs sL41SeenFS.ex a = sL41Seen a := by kernel_rfl
theorem sL41Seen_sound : Sound Try.prog sL41SeenFS :=
  sound_of_den (E := { tt := tt, fs := [sL1InFS] }) (.cons sL1In_callable sL1In_sound (.nil tt_ok)) mixed_ok [(2, { n := 19, its := [.t 0 (.ro (.list (.base .int))), .t 3 (.ro (.base .int))], boxes := [], ptrs := [] })] (fn := Try.f222) (by kernel_rfl) fun x => sL41Seen_den x
theorem sIsValidOp_callable : callable Try.prog 195 = true := by kernel_rfl
theorem sIsValidOp_den (a : GOp) : denF { tt := tt, fs := [sL1InFS, sL41SeenFS] } [] Try.f195 sIsValidOpFS.ps sIsValidOpFS.rs sIsValidOpFS.ex a = sIsValidOp a := by kernel_rfl
theorem sIsValidOp_sound : Sound Try.prog sIsValidOpFS :=
  sound_of_den (E := { tt := tt, fs := [sL1InFS, sL41SeenFS] }) (.cons sL1In_callable sL1In_sound (.cons sL41Seen_callable sL41Seen_sound (.nil tt_ok))) mixed_ok [] (fn := Try.f195) (by kernel_rfl) fun x => sIsValidOp_den x
theorem sIsValidLog_callable : callable Try.prog 173 = true := by kernel_rfl
theorem sIsValidLog_den (a : List GOp) : denF { tt := tt, fs := [sOpBeforeFS, sIsValidOpFS] } [(2, { n := 36, its := [.t 0 (.ro (.list (.base .op))), .t 3 (.ro (.base .int))], boxes := [], ptrs := [] })] Try.f173 sIsValidLogFS.ps sIsValidLogFS.rs sIsValidLogFS.ex a = sIsValidLog a := by kernel_rfl
theorem sIsValidLog_sound : Sound Try.prog sIsValidLogFS :=
  sound_of_den (E := { tt := tt, fs := [sOpBeforeFS, sIsValidOpFS] }) (.cons sOpBefore_callable sOpBefore_sound (.cons sIsValidOp_callable sIsValidOp_sound (.nil tt_ok))) mixed_ok [(2, { n := 36, its := [.t 0 (.ro (.list (.base .op))), .t 3 (.ro (.base .int))], boxes := [], ptrs := [] })] (fn := Try.f173) (by kernel_rfl) fun x => sIsValidLog_den x
theorem sIsValidReplica_callable : callable Try.prog 126 = true := by kernel_rfl
theorem sIsValidReplica_den (a : GReplica) : denF { tt := tt, fs := [sL1InFS, sIsValidLogFS] } [] Try.f126 sIsValidReplicaFS.ps sIsValidReplicaFS.rs sIsValidReplicaFS.ex a = sIsValidReplica a := by kernel_rfl
theorem sIsValidReplica_sound : Sound Try.prog sIsValidReplicaFS :=
  sound_of_den (E := { tt := tt, fs := [sL1InFS, sIsValidLogFS] }) (.cons sL1In_callable sL1In_sound (.cons sIsValidLog_callable sIsValidLog_sound (.nil tt_ok))) mixed_ok [] (fn := Try.f126) (by kernel_rfl) fun x => sIsValidReplica_den x
theorem sAddOp_callable : callable Try.prog 56 = true := by kernel_rfl
theorem sAddOp_den (a : GReplica) (b : GOp) : denF { tt := tt, fs := [sL41CopyFS, sLastTimeFS, sSeenByFS, sL43CopyFS, sIsValidReplicaFS] } [] Try.f56 sAddOpFS.ps sAddOpFS.rs sAddOpFS.ex (a, b) = sAddOp a b := by kernel_rfl
theorem sAddOp_sound : Sound Try.prog sAddOpFS :=
  sound_of_den (E := { tt := tt, fs := [sL41CopyFS, sLastTimeFS, sSeenByFS, sL43CopyFS, sIsValidReplicaFS] }) (.cons sL41Copy_callable sL41Copy_sound (.cons sLastTime_callable sLastTime_sound (.cons sSeenBy_callable sSeenBy_sound (.cons sL43Copy_callable sL43Copy_sound (.cons sIsValidReplica_callable sIsValidReplica_sound (.nil tt_ok)))))) mixed_ok [] (fn := Try.f56) (by kernel_rfl) fun x => sAddOp_den x.1 x.2
theorem iCopyOps_callable : callable Try.prog 175 = true := by kernel_rfl
theorem iCopyOps_den (a : List GOp) : denF { tt := tt, fs := [iCopyOpFS] } [(3, { n := 20, its := [.t 3 (.own (.base .op) true true 0), .t 7 (.ro (.list (.base .op))), .t 8 (.ro (.base .int)), .t 9 (.ro (.base .int))], boxes := [], ptrs := [] })] Try.f175 iCopyOpsFS.ps iCopyOpsFS.rs iCopyOpsFS.ex a = iCopyOps a := by kernel_rfl
theorem iCopyOps_sound : Sound Try.prog iCopyOpsFS :=
  sound_of_den (E := { tt := tt, fs := [iCopyOpFS] }) (.cons iCopyOp_callable iCopyOp_sound (.nil tt_ok)) mixed_ok [(3, { n := 20, its := [.t 3 (.own (.base .op) true true 0), .t 7 (.ro (.list (.base .op))), .t 8 (.ro (.base .int)), .t 9 (.ro (.base .int))], boxes := [], ptrs := [] })] (fn := Try.f175) (by kernel_rfl) fun x => iCopyOps_den x
theorem iCopyReplica_callable : callable Try.prog 128 = true := by kernel_rfl
theorem iCopyReplica_den (a : GReplica) : denF { tt := tt, fs := [iCopyOpsFS] } [] Try.f128 iCopyReplicaFS.ps iCopyReplicaFS.rs iCopyReplicaFS.ex a = iCopyReplica a := by kernel_rfl
theorem iCopyReplica_sound : Sound Try.prog iCopyReplicaFS :=
  sound_of_den (E := { tt := tt, fs := [iCopyOpsFS] }) (.cons iCopyOps_callable iCopyOps_sound (.nil tt_ok)) mixed_ok [] (fn := Try.f128) (by kernel_rfl) fun x => iCopyReplica_den x
theorem iOpBefore_callable : callable Try.prog 137 = true := by kernel_rfl
theorem iOpBefore_den (a : GOp) (b : GOp) : denF { tt := tt, fs := [] } [] Try.f137 iOpBeforeFS.ps iOpBeforeFS.rs iOpBeforeFS.ex (a, b) = iOpBefore a b := by kernel_rfl
theorem iOpBefore_sound : Sound Try.prog iOpBeforeFS :=
  sound_of_den (E := { tt := tt, fs := [] }) (.nil tt_ok) mixed_ok [] (fn := Try.f137) (by kernel_rfl) fun x => iOpBefore_den x.1 x.2
theorem iIsValidOp_callable : callable Try.prog 197 = true := by kernel_rfl
theorem iIsValidOp_den (a : GOp) : denF { tt := tt, fs := [iWithinFS] } [(4, { n := 81, its := [.b 1 0 (.ro (.base .int)), .b 1 1 (.ro (.base .int)), .b 1 2 (.ro (.base .int)), .b 1 3 (.ro (.list (.base .int))), .b 1 4 (.ro (.base .int)), .b 1 5 (.ro (.base .int)), .b 1 6 (.ro (.base .int)), .b 1 7 (.ro (.base .int)), .b 1 8 (.ro (.base .int)), .b 1 9 (.ro (.base .str)), .b 1 10 (.ro (.base .str)), .b 1 11 (.ro (.base .int)), .b 1 12 (.ro (.base .str)), .b 1 13 (.ro (.base .str)), .b 1 14 (.ro (.base .int)), .b 1 15 (.ro (.base .int)), .b 1 16 (.ro (.list (.base .read))), .t 25 (.ro (.list (.base .int))), .t 26 (.ro (.base .int)), .t 27 (.ro (.base .int))], boxes := [(1, 17)], ptrs := [(1, 1, 0)] })] Try.f197 iIsValidOpFS.ps iIsValidOpFS.rs iIsValidOpFS.ex a = iIsValidOp a := by kernel_rfl
theorem iIsValidOp_sound : Sound Try.prog iIsValidOpFS :=
  sound_of_den (E := { tt := tt, fs := [iWithinFS] }) (.cons iWithin_callable iWithin_sound (.nil tt_ok)) mixed_ok [(4, { n := 81, its := [.b 1 0 (.ro (.base .int)), .b 1 1 (.ro (.base .int)), .b 1 2 (.ro (.base .int)), .b 1 3 (.ro (.list (.base .int))), .b 1 4 (.ro (.base .int)), .b 1 5 (.ro (.base .int)), .b 1 6 (.ro (.base .int)), .b 1 7 (.ro (.base .int)), .b 1 8 (.ro (.base .int)), .b 1 9 (.ro (.base .str)), .b 1 10 (.ro (.base .str)), .b 1 11 (.ro (.base .int)), .b 1 12 (.ro (.base .str)), .b 1 13 (.ro (.base .str)), .b 1 14 (.ro (.base .int)), .b 1 15 (.ro (.base .int)), .b 1 16 (.ro (.list (.base .read))), .t 25 (.ro (.list (.base .int))), .t 26 (.ro (.base .int)), .t 27 (.ro (.base .int))], boxes := [(1, 17)], ptrs := [(1, 1, 0)] })] (fn := Try.f197) (by kernel_rfl) fun x => iIsValidOp_den x
theorem iIsValidLog_callable : callable Try.prog 176 = true := by kernel_rfl
theorem iIsValidLog_den (a : List GOp) : denF { tt := tt, fs := [iOpBeforeFS, iIsValidOpFS] } [(2, { n := 33, its := [.t 0 (.ro (.list (.base .op))), .t 5 (.ro (.list (.base .op))), .t 6 (.ro (.base .int)), .t 7 (.ro (.base .int))], boxes := [], ptrs := [] })] Try.f176 iIsValidLogFS.ps iIsValidLogFS.rs iIsValidLogFS.ex a = iIsValidLog a := by kernel_rfl
theorem iIsValidLog_sound : Sound Try.prog iIsValidLogFS :=
  sound_of_den (E := { tt := tt, fs := [iOpBeforeFS, iIsValidOpFS] }) (.cons iOpBefore_callable iOpBefore_sound (.cons iIsValidOp_callable iIsValidOp_sound (.nil tt_ok))) mixed_ok [(2, { n := 33, its := [.t 0 (.ro (.list (.base .op))), .t 5 (.ro (.list (.base .op))), .t 6 (.ro (.base .int)), .t 7 (.ro (.base .int))], boxes := [], ptrs := [] })] (fn := Try.f176) (by kernel_rfl) fun x => iIsValidLog_den x
end Go.Proofs.Ytmfhbmfadapdbaa
