/- The functions compute their models, by gen.py. -/
import Derived.Test.YtijhfajcbmpndaaGreatSrtMergeOps
namespace Go.Proofs.YtijhfajcbmpndaaGreat
open Go.Abs Go.Proofs
set_option maxRecDepth 100000
theorem iMergeOps_callable : callable Tryz.prog 14 = true := by kernel_rfl
theorem iMergeOps_den (a : List GOp) (b : List GOp) : denF { tt := tt, fs := [iCopyOpFS], so := [srtMergeOps] } [(7, { n := 57, its := [.b 5 0 (.own (.base .op) true true 0), .b 7 0 (.ro (.base .int)), .b 7 1 (.ro (.base .int)), .b 7 2 (.ro (.base .int)), .b 7 3 (.ro (.list (.base .int))), .b 7 4 (.ro (.base .int)), .b 7 5 (.ro (.base .int)), .b 7 6 (.ro (.base .int)), .b 7 7 (.ro (.base .int)), .b 7 8 (.ro (.base .int)), .b 7 9 (.ro (.base .str)), .b 7 10 (.ro (.base .str)), .b 7 11 (.ro (.base .int)), .b 7 12 (.ro (.base .str)), .b 7 13 (.ro (.base .str)), .b 7 14 (.ro (.base .int)), .b 7 15 (.ro (.base .int)), .b 7 16 (.ro (.list (.base .read))), .t 8 (.ro (.base .bool)), .t 16 (.own (.base .op) false true 1), .t 17 (.ro (.base .int)), .t 18 (.ro (.base .int)), .t 23 (.ro (.base .int)), .t 24 (.ro (.base .int))], boxes := [(5, 1), (7, 17)], ptrs := [(5, 5, 0), (7, 7, 0)], als := [(22, 5, 0)] }), (3, { n := 57, its := [.b 5 0 (.own (.base .op) true true 0), .t 16 (.own (.base .op) false true 1), .t 17 (.ro (.base .int)), .t 18 (.ro (.base .int))], boxes := [(5, 1)], ptrs := [(5, 5, 0)] })] Tryz.f14 iMergeOpsFS.ps iMergeOpsFS.rs iMergeOpsFS.ex (a, b) = iMergeOps a b := by kernel_rfl
theorem iMergeOps_sound : Sound Tryz.prog iMergeOpsFS :=
  sound_of_den (E := { tt := tt, fs := [iCopyOpFS], so := [srtMergeOps] }) (EnvOk.sorts [srtMergeOps] srtsMergeOps_ok (.cons iCopyOp_callable iCopyOp_sound (.nil tt_ok))) mixed_ok [(7, { n := 57, its := [.b 5 0 (.own (.base .op) true true 0), .b 7 0 (.ro (.base .int)), .b 7 1 (.ro (.base .int)), .b 7 2 (.ro (.base .int)), .b 7 3 (.ro (.list (.base .int))), .b 7 4 (.ro (.base .int)), .b 7 5 (.ro (.base .int)), .b 7 6 (.ro (.base .int)), .b 7 7 (.ro (.base .int)), .b 7 8 (.ro (.base .int)), .b 7 9 (.ro (.base .str)), .b 7 10 (.ro (.base .str)), .b 7 11 (.ro (.base .int)), .b 7 12 (.ro (.base .str)), .b 7 13 (.ro (.base .str)), .b 7 14 (.ro (.base .int)), .b 7 15 (.ro (.base .int)), .b 7 16 (.ro (.list (.base .read))), .t 8 (.ro (.base .bool)), .t 16 (.own (.base .op) false true 1), .t 17 (.ro (.base .int)), .t 18 (.ro (.base .int)), .t 23 (.ro (.base .int)), .t 24 (.ro (.base .int))], boxes := [(5, 1), (7, 17)], ptrs := [(5, 5, 0), (7, 7, 0)], als := [(22, 5, 0)] }), (3, { n := 57, its := [.b 5 0 (.own (.base .op) true true 0), .t 16 (.own (.base .op) false true 1), .t 17 (.ro (.base .int)), .t 18 (.ro (.base .int))], boxes := [(5, 1)], ptrs := [(5, 5, 0)] })] (fn := Tryz.f14) (by kernel_rfl) fun x => iMergeOps_den x.1 x.2
theorem iWithin_callable : callable Tryz.prog 48 = true := by kernel_rfl
theorem iWithin_den (a : Int) (b : Int) (c : Int) : denF { tt := tt, fs := [] } [] Tryz.f48 iWithinFS.ps iWithinFS.rs iWithinFS.ex (a, b, c) = iWithin a b c := by kernel_rfl
theorem iWithin_sound : Sound Tryz.prog iWithinFS :=
  sound_of_den (E := { tt := tt, fs := [] }) (.nil tt_ok) mixed_ok [] (fn := Tryz.f48) (by kernel_rfl) fun x => iWithin_den x.1 x.2.1 x.2.2
theorem iIsValidOp_callable : callable Tryz.prog 39 = true := by kernel_rfl
theorem iIsValidOp_den (a : GOp) : denF { tt := tt, fs := [iWithinFS] } [(4, { n := 81, its := [.b 1 0 (.ro (.base .int)), .b 1 1 (.ro (.base .int)), .b 1 2 (.ro (.base .int)), .b 1 3 (.ro (.list (.base .int))), .b 1 4 (.ro (.base .int)), .b 1 5 (.ro (.base .int)), .b 1 6 (.ro (.base .int)), .b 1 7 (.ro (.base .int)), .b 1 8 (.ro (.base .int)), .b 1 9 (.ro (.base .str)), .b 1 10 (.ro (.base .str)), .b 1 11 (.ro (.base .int)), .b 1 12 (.ro (.base .str)), .b 1 13 (.ro (.base .str)), .b 1 14 (.ro (.base .int)), .b 1 15 (.ro (.base .int)), .b 1 16 (.ro (.list (.base .read))), .t 25 (.ro (.list (.base .int))), .t 26 (.ro (.base .int)), .t 27 (.ro (.base .int))], boxes := [(1, 17)], ptrs := [(1, 1, 0)] })] Tryz.f39 iIsValidOpFS.ps iIsValidOpFS.rs iIsValidOpFS.ex a = iIsValidOp a := by kernel_rfl
theorem iIsValidOp_sound : Sound Tryz.prog iIsValidOpFS :=
  sound_of_den (E := { tt := tt, fs := [iWithinFS] }) (.cons iWithin_callable iWithin_sound (.nil tt_ok)) mixed_ok [(4, { n := 81, its := [.b 1 0 (.ro (.base .int)), .b 1 1 (.ro (.base .int)), .b 1 2 (.ro (.base .int)), .b 1 3 (.ro (.list (.base .int))), .b 1 4 (.ro (.base .int)), .b 1 5 (.ro (.base .int)), .b 1 6 (.ro (.base .int)), .b 1 7 (.ro (.base .int)), .b 1 8 (.ro (.base .int)), .b 1 9 (.ro (.base .str)), .b 1 10 (.ro (.base .str)), .b 1 11 (.ro (.base .int)), .b 1 12 (.ro (.base .str)), .b 1 13 (.ro (.base .str)), .b 1 14 (.ro (.base .int)), .b 1 15 (.ro (.base .int)), .b 1 16 (.ro (.list (.base .read))), .t 25 (.ro (.list (.base .int))), .t 26 (.ro (.base .int)), .t 27 (.ro (.base .int))], boxes := [(1, 17)], ptrs := [(1, 1, 0)] })] (fn := Tryz.f39) (by kernel_rfl) fun x => iIsValidOp_den x
theorem iIsValidLog_callable : callable Tryz.prog 17 = true := by kernel_rfl
theorem iIsValidLog_den (a : List GOp) : denF { tt := tt, fs := [iOpBeforeFS, iIsValidOpFS] } [(2, { n := 33, its := [.t 0 (.ro (.list (.base .op))), .t 5 (.ro (.list (.base .op))), .t 6 (.ro (.base .int)), .t 7 (.ro (.base .int))], boxes := [], ptrs := [] })] Tryz.f17 iIsValidLogFS.ps iIsValidLogFS.rs iIsValidLogFS.ex a = iIsValidLog a := by kernel_rfl
theorem iIsValidLog_sound : Sound Tryz.prog iIsValidLogFS :=
  sound_of_den (E := { tt := tt, fs := [iOpBeforeFS, iIsValidOpFS] }) (.cons iOpBefore_callable iOpBefore_sound (.cons iIsValidOp_callable iIsValidOp_sound (.nil tt_ok))) mixed_ok [(2, { n := 33, its := [.t 0 (.ro (.list (.base .op))), .t 5 (.ro (.list (.base .op))), .t 6 (.ro (.base .int)), .t 7 (.ro (.base .int))], boxes := [], ptrs := [] })] (fn := Tryz.f17) (by kernel_rfl) fun x => iIsValidLog_den x
theorem iIsValidReplica_callable : callable Tryz.prog 24 = true := by kernel_rfl
theorem iIsValidReplica_den (a : GReplica) : denF { tt := tt, fs := [iIsValidLogFS, iWithinFS] } [] Tryz.f24 iIsValidReplicaFS.ps iIsValidReplicaFS.rs iIsValidReplicaFS.ex a = iIsValidReplica a := by kernel_rfl
theorem iIsValidReplica_sound : Sound Tryz.prog iIsValidReplicaFS :=
  sound_of_den (E := { tt := tt, fs := [iIsValidLogFS, iWithinFS] }) (.cons iIsValidLog_callable iIsValidLog_sound (.cons iWithin_callable iWithin_sound (.nil tt_ok))) mixed_ok [] (fn := Tryz.f24) (by kernel_rfl) fun x => iIsValidReplica_den x
theorem iCopyOps_callable : callable Tryz.prog 49 = true := by kernel_rfl
theorem iCopyOps_den (a : List GOp) : denF { tt := tt, fs := [iCopyOpFS] } [(3, { n := 20, its := [.t 3 (.own (.base .op) true true 0), .t 7 (.ro (.list (.base .op))), .t 8 (.ro (.base .int)), .t 9 (.ro (.base .int))], boxes := [], ptrs := [] })] Tryz.f49 iCopyOpsFS.ps iCopyOpsFS.rs iCopyOpsFS.ex a = iCopyOps a := by kernel_rfl
theorem iCopyOps_sound : Sound Tryz.prog iCopyOpsFS :=
  sound_of_den (E := { tt := tt, fs := [iCopyOpFS] }) (.cons iCopyOp_callable iCopyOp_sound (.nil tt_ok)) mixed_ok [(3, { n := 20, its := [.t 3 (.own (.base .op) true true 0), .t 7 (.ro (.list (.base .op))), .t 8 (.ro (.base .int)), .t 9 (.ro (.base .int))], boxes := [], ptrs := [] })] (fn := Tryz.f49) (by kernel_rfl) fun x => iCopyOps_den x
theorem iCopyReplica_callable : callable Tryz.prog 25 = true := by kernel_rfl
theorem iCopyReplica_den (a : GReplica) : denF { tt := tt, fs := [iCopyOpsFS] } [] Tryz.f25 iCopyReplicaFS.ps iCopyReplicaFS.rs iCopyReplicaFS.ex a = iCopyReplica a := by kernel_rfl
theorem iCopyReplica_sound : Sound Tryz.prog iCopyReplicaFS :=
  sound_of_den (E := { tt := tt, fs := [iCopyOpsFS] }) (.cons iCopyOps_callable iCopyOps_sound (.nil tt_ok)) mixed_ok [] (fn := Tryz.f25) (by kernel_rfl) fun x => iCopyReplica_den x
theorem iPull_callable : callable Tryz.prog 8 = true := by kernel_rfl
theorem iPull_den (a : GReplica) (b : GReplica) : denF { tt := tt, fs := [iMergeOpsFS, iIsValidReplicaFS, iCopyReplicaFS] } [] Tryz.f8 iPullFS.ps iPullFS.rs iPullFS.ex (a, b) = iPull a b := by kernel_rfl
theorem iPull_sound : Sound Tryz.prog iPullFS :=
  sound_of_den (E := { tt := tt, fs := [iMergeOpsFS, iIsValidReplicaFS, iCopyReplicaFS] }) (.cons iMergeOps_callable iMergeOps_sound (.cons iIsValidReplica_callable iIsValidReplica_sound (.cons iCopyReplica_callable iCopyReplica_sound (.nil tt_ok)))) mixed_ok [] (fn := Tryz.f8) (by kernel_rfl) fun x => iPull_den x.1 x.2
theorem eqIntS_callable : callable Tryz.prog 76 = true := by kernel_rfl
theorem eqIntS_den (a : List Int) (b : List Int) : denF { tt := tt, fs := [] } [(4, { n := 26, its := [.t 0 (.ro (.list (.base .int))), .t 1 (.ro (.list (.base .int))), .t 5 (.ro (.base .int))], boxes := [], ptrs := [] })] Tryz.f76 eqIntSFS.ps eqIntSFS.rs eqIntSFS.ex (a, b) = eqIntS a b := by kernel_rfl
theorem eqIntS_sound : Sound Tryz.prog eqIntSFS :=
  sound_of_den (E := { tt := tt, fs := [] }) (.nil tt_ok) mixed_ok [(4, { n := 26, its := [.t 0 (.ro (.list (.base .int))), .t 1 (.ro (.list (.base .int))), .t 5 (.ro (.base .int))], boxes := [], ptrs := [] })] (fn := Tryz.f76) (by kernel_rfl) fun x => eqIntS_den x.1 x.2
theorem eqCell_callable : callable Tryz.prog 112 = true := by kernel_rfl
theorem eqCell_den (a : GCell) (b : GCell) : denF { tt := tt, fs := [] } [] Tryz.f112 eqCellFS.ps eqCellFS.rs eqCellFS.ex (a, b) = eqCell a b := by kernel_rfl
theorem eqCell_sound : Sound Tryz.prog eqCellFS :=
  sound_of_den (E := { tt := tt, fs := [] }) (.nil tt_ok) mixed_ok [] (fn := Tryz.f112) (by kernel_rfl) fun x => eqCell_den x.1 x.2
theorem eqEdit_callable : callable Tryz.prog 77 = true := by kernel_rfl
theorem eqEdit_den (a : GEdit) (b : GEdit) : denF { tt := tt, fs := [eqCellFS] } [] Tryz.f77 eqEditFS.ps eqEditFS.rs eqEditFS.ex (a, b) = eqEdit a b := by kernel_rfl
theorem eqEdit_sound : Sound Tryz.prog eqEditFS :=
  sound_of_den (E := { tt := tt, fs := [eqCellFS] }) (.cons eqCell_callable eqCell_sound (.nil tt_ok)) mixed_ok [] (fn := Tryz.f77) (by kernel_rfl) fun x => eqEdit_den x.1 x.2
theorem eqStringS_callable : callable Tryz.prog 144 = true := by kernel_rfl
theorem eqStringS_den (a : List Str) (b : List Str) : denF { tt := tt, fs := [] } [(4, { n := 26, its := [.t 0 (.ro (.list (.base .str))), .t 1 (.ro (.list (.base .str))), .t 5 (.ro (.base .int))], boxes := [], ptrs := [] })] Tryz.f144 eqStringSFS.ps eqStringSFS.rs eqStringSFS.ex (a, b) = eqStringS a b := by kernel_rfl
theorem eqStringS_sound : Sound Tryz.prog eqStringSFS :=
  sound_of_den (E := { tt := tt, fs := [] }) (.nil tt_ok) mixed_ok [(4, { n := 26, its := [.t 0 (.ro (.list (.base .str))), .t 1 (.ro (.list (.base .str))), .t 5 (.ro (.base .int))], boxes := [], ptrs := [] })] (fn := Tryz.f144) (by kernel_rfl) fun x => eqStringS_den x.1 x.2
theorem eqOrigin_callable : callable Tryz.prog 175 = true := by kernel_rfl
theorem eqOrigin_den (a : GOrigin) (b : GOrigin) : denF { tt := tt, fs := [] } [] Tryz.f175 eqOriginFS.ps eqOriginFS.rs eqOriginFS.ex (a, b) = eqOrigin a b := by kernel_rfl
theorem eqOrigin_sound : Sound Tryz.prog eqOriginFS :=
  sound_of_den (E := { tt := tt, fs := [] }) (.nil tt_ok) mixed_ok [] (fn := Tryz.f175) (by kernel_rfl) fun x => eqOrigin_den x.1 x.2
theorem eqOriginS_callable : callable Tryz.prog 172 = true := by kernel_rfl
theorem eqOriginS_den (a : List GOrigin) (b : List GOrigin) : denF { tt := tt, fs := [eqOriginFS] } [(4, { n := 27, its := [.t 0 (.ro (.list (.base .origin))), .t 1 (.ro (.list (.base .origin))), .t 5 (.ro (.base .int))], boxes := [], ptrs := [] })] Tryz.f172 eqOriginSFS.ps eqOriginSFS.rs eqOriginSFS.ex (a, b) = eqOriginS a b := by kernel_rfl
theorem eqOriginS_sound : Sound Tryz.prog eqOriginSFS :=
  sound_of_den (E := { tt := tt, fs := [eqOriginFS] }) (.cons eqOrigin_callable eqOrigin_sound (.nil tt_ok)) mixed_ok [(4, { n := 27, its := [.t 0 (.ro (.list (.base .origin))), .t 1 (.ro (.list (.base .origin))), .t 5 (.ro (.base .int))], boxes := [], ptrs := [] })] (fn := Tryz.f172) (by kernel_rfl) fun x => eqOriginS_den x.1 x.2
theorem eqRow_callable : callable Tryz.prog 161 = true := by kernel_rfl
theorem eqRow_den (a : GRow) (b : GRow) : denF { tt := tt, fs := [eqIntSFS, eqOriginSFS] } [] Tryz.f161 eqRowFS.ps eqRowFS.rs eqRowFS.ex (a, b) = eqRow a b := by kernel_rfl
theorem eqRow_sound : Sound Tryz.prog eqRowFS :=
  sound_of_den (E := { tt := tt, fs := [eqIntSFS, eqOriginSFS] }) (.cons eqIntS_callable eqIntS_sound (.cons eqOriginS_callable eqOriginS_sound (.nil tt_ok))) mixed_ok [] (fn := Tryz.f161) (by kernel_rfl) fun x => eqRow_den x.1 x.2
theorem eqRowS_callable : callable Tryz.prog 145 = true := by kernel_rfl
theorem eqRowS_den (a : List GRow) (b : List GRow) : denF { tt := tt, fs := [eqRowFS] } [(4, { n := 27, its := [.t 0 (.ro (.list (.base .row))), .t 1 (.ro (.list (.base .row))), .t 5 (.ro (.base .int))], boxes := [], ptrs := [] })] Tryz.f145 eqRowSFS.ps eqRowSFS.rs eqRowSFS.ex (a, b) = eqRowS a b := by kernel_rfl
theorem eqRowS_sound : Sound Tryz.prog eqRowSFS :=
  sound_of_den (E := { tt := tt, fs := [eqRowFS] }) (.cons eqRow_callable eqRow_sound (.nil tt_ok)) mixed_ok [(4, { n := 27, its := [.t 0 (.ro (.list (.base .row))), .t 1 (.ro (.list (.base .row))), .t 5 (.ro (.base .int))], boxes := [], ptrs := [] })] (fn := Tryz.f145) (by kernel_rfl) fun x => eqRowS_den x.1 x.2
theorem eqValue_callable : callable Tryz.prog 128 = true := by kernel_rfl
theorem eqValueS_callable : callable Tryz.prog 143 = true := by kernel_rfl
theorem eqValue_den (reqValue : GVal → GVal → Option (Bool)) (reqValueS : (List GVal) → (List GVal) → Option (Bool)) (a : GVal) (b : GVal) : denF { tt := tt, fs := [eqStringSFS, eqRowSFS, { fid := 128, ps := [⟨true, .base .val⟩, ⟨true, .base .val⟩], rs := [⟨false, .base .bool⟩], ex := true, fn := fun x => reqValue x.1 x.2 }, { fid := 143, ps := [⟨false, .list (.base .val)⟩, ⟨false, .list (.base .val)⟩], rs := [⟨false, .base .bool⟩], ex := true, fn := fun x => reqValueS x.1 x.2 }] } [] Tryz.f128 eqValueFS.ps eqValueFS.rs eqValueFS.ex (a, b) = eqValueB reqValue reqValueS a b := by kernel_rfl
theorem eqValueS_den (reqValue : GVal → GVal → Option (Bool)) (reqValueS : (List GVal) → (List GVal) → Option (Bool)) (a : List GVal) (b : List GVal) : denF { tt := tt, fs := [eqStringSFS, eqRowSFS, { fid := 128, ps := [⟨true, .base .val⟩, ⟨true, .base .val⟩], rs := [⟨false, .base .bool⟩], ex := true, fn := fun x => reqValue x.1 x.2 }, { fid := 143, ps := [⟨false, .list (.base .val)⟩, ⟨false, .list (.base .val)⟩], rs := [⟨false, .base .bool⟩], ex := true, fn := fun x => reqValueS x.1 x.2 }] } [(4, { n := 27, its := [.t 0 (.ro (.list (.base .val))), .t 1 (.ro (.list (.base .val))), .t 5 (.ro (.base .int))], boxes := [], ptrs := [] })] Tryz.f143 eqValueSFS.ps eqValueSFS.rs eqValueSFS.ex (a, b) = eqValueSB reqValue reqValueS a b := by kernel_rfl
theorem eqValueG_sound : ∀ n, Sound Tryz.prog (eqValueFSN n) ∧ Sound Tryz.prog (eqValueSFSN n)
  | 0 => ⟨(fun w S args x y h => by cases h), (fun w S args x y h => by cases h)⟩
  | n + 1 => by
    have ih := eqValueG_sound n
    exact ⟨sound_of_den (s := eqValueFSN (n + 1)) (E := { tt := tt, fs := [eqStringSFS, eqRowSFS, eqValueFSN n, eqValueSFSN n] }) (.cons eqStringS_callable eqStringS_sound (.cons eqRowS_callable eqRowS_sound (.cons eqValue_callable ih.1 (.cons eqValueS_callable ih.2 (.nil tt_ok))))) mixed_ok [] (fn := Tryz.f128) (by kernel_rfl) fun x => eqValue_den _ _ x.1 x.2, sound_of_den (s := eqValueSFSN (n + 1)) (E := { tt := tt, fs := [eqStringSFS, eqRowSFS, eqValueFSN n, eqValueSFSN n] }) (.cons eqStringS_callable eqStringS_sound (.cons eqRowS_callable eqRowS_sound (.cons eqValue_callable ih.1 (.cons eqValueS_callable ih.2 (.nil tt_ok))))) mixed_ok [(4, { n := 27, its := [.t 0 (.ro (.list (.base .val))), .t 1 (.ro (.list (.base .val))), .t 5 (.ro (.base .int))], boxes := [], ptrs := [] })] (fn := Tryz.f143) (by kernel_rfl) fun x => eqValueS_den _ _ x.1 x.2⟩
theorem eqValue_sound : Sound Tryz.prog eqValueFS := fun w S args x y h => (eqValueG_sound (siz (α := GVal) x.1 + siz (α := GVal) x.2 + 1)).1 w S args x y h
theorem eqValueS_sound : Sound Tryz.prog eqValueSFS := fun w S args x y h => (eqValueG_sound (siz (α := List GVal) x.1 + siz (α := List GVal) x.2 + 1)).2 w S args x y h
theorem eqRead_callable : callable Tryz.prog 113 = true := by kernel_rfl
theorem eqRead_den (a : GRead) (b : GRead) : denF { tt := tt, fs := [eqValueFS] } [] Tryz.f113 eqReadFS.ps eqReadFS.rs eqReadFS.ex (a, b) = eqRead a b := by kernel_rfl
theorem eqRead_sound : Sound Tryz.prog eqReadFS :=
  sound_of_den (E := { tt := tt, fs := [eqValueFS] }) (.cons eqValue_callable eqValue_sound (.nil tt_ok)) mixed_ok [] (fn := Tryz.f113) (by kernel_rfl) fun x => eqRead_den x.1 x.2
theorem eqReadS_callable : callable Tryz.prog 78 = true := by kernel_rfl
theorem eqReadS_den (a : List GRead) (b : List GRead) : denF { tt := tt, fs := [eqReadFS] } [(4, { n := 27, its := [.t 0 (.ro (.list (.base .read))), .t 1 (.ro (.list (.base .read))), .t 5 (.ro (.base .int))], boxes := [], ptrs := [] })] Tryz.f78 eqReadSFS.ps eqReadSFS.rs eqReadSFS.ex (a, b) = eqReadS a b := by kernel_rfl
theorem eqReadS_sound : Sound Tryz.prog eqReadSFS :=
  sound_of_den (E := { tt := tt, fs := [eqReadFS] }) (.cons eqRead_callable eqRead_sound (.nil tt_ok)) mixed_ok [(4, { n := 27, its := [.t 0 (.ro (.list (.base .read))), .t 1 (.ro (.list (.base .read))), .t 5 (.ro (.base .int))], boxes := [], ptrs := [] })] (fn := Tryz.f78) (by kernel_rfl) fun x => eqReadS_den x.1 x.2
theorem eqOp_callable : callable Tryz.prog 50 = true := by kernel_rfl
theorem eqOp_den (a : GOp) (b : GOp) : denF { tt := tt, fs := [eqIntSFS, eqEditFS, eqReadSFS] } [] Tryz.f50 eqOpFS.ps eqOpFS.rs eqOpFS.ex (a, b) = eqOp a b := by kernel_rfl
theorem eqOp_sound : Sound Tryz.prog eqOpFS :=
  sound_of_den (E := { tt := tt, fs := [eqIntSFS, eqEditFS, eqReadSFS] }) (.cons eqIntS_callable eqIntS_sound (.cons eqEdit_callable eqEdit_sound (.cons eqReadS_callable eqReadS_sound (.nil tt_ok)))) mixed_ok [] (fn := Tryz.f50) (by kernel_rfl) fun x => eqOp_den x.1 x.2
theorem eqOpS_callable : callable Tryz.prog 26 = true := by kernel_rfl
theorem eqOpS_den (a : List GOp) (b : List GOp) : denF { tt := tt, fs := [eqOpFS] } [(4, { n := 27, its := [.t 0 (.ro (.list (.base .op))), .t 1 (.ro (.list (.base .op))), .t 5 (.ro (.base .int))], boxes := [], ptrs := [] })] Tryz.f26 eqOpSFS.ps eqOpSFS.rs eqOpSFS.ex (a, b) = eqOpS a b := by kernel_rfl
theorem eqOpS_sound : Sound Tryz.prog eqOpSFS :=
  sound_of_den (E := { tt := tt, fs := [eqOpFS] }) (.cons eqOp_callable eqOp_sound (.nil tt_ok)) mixed_ok [(4, { n := 27, its := [.t 0 (.ro (.list (.base .op))), .t 1 (.ro (.list (.base .op))), .t 5 (.ro (.base .int))], boxes := [], ptrs := [] })] (fn := Tryz.f26) (by kernel_rfl) fun x => eqOpS_den x.1 x.2
theorem eqReplica_callable : callable Tryz.prog 9 = true := by kernel_rfl
theorem eqReplica_den (a : GReplica) (b : GReplica) : denF { tt := tt, fs := [eqOpSFS] } [] Tryz.f9 eqReplicaFS.ps eqReplicaFS.rs eqReplicaFS.ex (a, b) = eqReplica a b := by kernel_rfl
theorem eqReplica_sound : Sound Tryz.prog eqReplicaFS :=
  sound_of_den (E := { tt := tt, fs := [eqOpSFS] }) (.cons eqOpS_callable eqOpS_sound (.nil tt_ok)) mixed_ok [] (fn := Tryz.f9) (by kernel_rfl) fun x => eqReplica_den x.1 x.2
theorem markIntS_callable : callable Tryz.prog 51 = true := by kernel_rfl
theorem markIntS_den (a : List Int) (b : Int) : denMF { tt := tt, fs := [] } [(2, { n := 19, ty := .base .int, si := 5, sk := 1 })] Tryz.f51 markIntSMS.sh a b = markIntS a b := by kernel_rfl
theorem markIntS_msound : MSound Tryz.prog markIntSMS :=
  msound_of_den (E := { tt := tt, fs := [] }) (.nil tt_ok) [(2, { n := 19, ty := .base .int, si := 5, sk := 1 })] (fn := Tryz.f51) (by kernel_rfl) fun x n => markIntS_den x n
theorem markText_callable : callable Tryz.prog 52 = true := by kernel_rfl
theorem markText_den (a : Int) : denF { tt := tt, fs := [] } [(4, { n := 20, its := [.t 0 (.ro (.base .int)), .t 3 (.ro (.base .str))], boxes := [], ptrs := [] })] Tryz.f52 markTextFS.ps markTextFS.rs markTextFS.ex a = markText a := by kernel_rfl
theorem markText_sound : Sound Tryz.prog markTextFS :=
  sound_of_den (E := { tt := tt, fs := [] }) (.nil tt_ok) mixed_ok [(4, { n := 20, its := [.t 0 (.ro (.base .int)), .t 3 (.ro (.base .str))], boxes := [], ptrs := [] })] (fn := Tryz.f52) (by kernel_rfl) fun x => markText_den x
theorem markStringS_callable : callable Tryz.prog 80 = true := by kernel_rfl
theorem markStringS_den (a : List Str) (b : Int) : denMF { tt := tt, fs := [markTextFS] } [(2, { n := 20, ty := .base .str, si := 5, sk := 1 })] Tryz.f80 markStringSMS.sh a b = markStringS a b := by kernel_rfl
theorem markStringS_msound : MSound Tryz.prog markStringSMS :=
  msound_of_den (E := { tt := tt, fs := [markTextFS] }) (.cons markText_callable markText_sound (.nil tt_ok)) [(2, { n := 20, ty := .base .str, si := 5, sk := 1 })] (fn := Tryz.f80) (by kernel_rfl) fun x n => markStringS_den x n
theorem markOriginS_callable : callable Tryz.prog 114 = true := by kernel_rfl
theorem markOriginS_den (a : List GOrigin) (b : Int) : denMF { tt := tt, fs := [] } [(2, { n := 27, ty := .base .origin, si := 5, sk := 1 })] Tryz.f114 markOriginSMS.sh a b = markOriginS a b := by kernel_rfl
theorem markOriginS_msound : MSound Tryz.prog markOriginSMS :=
  msound_of_den (E := { tt := tt, fs := [] }) (.nil tt_ok) [(2, { n := 27, ty := .base .origin, si := 5, sk := 1 })] (fn := Tryz.f114) (by kernel_rfl) fun x n => markOriginS_den x n
theorem markRowS_callable : callable Tryz.prog 81 = true := by kernel_rfl
theorem markRowS_den (a : List GRow) (b : Int) : denMF { tt := tt, fs := [], ms := [markIntSMS, markOriginSMS] } [(2, { n := 27, ty := .base .row, si := 5, sk := 1 })] Tryz.f81 markRowSMS.sh a b = markRowS a b := by kernel_rfl
theorem markRowS_msound : MSound Tryz.prog markRowSMS :=
  msound_of_den (E := { tt := tt, fs := [], ms := [markIntSMS, markOriginSMS] }) (.consM markIntS_callable markIntS_msound (.consM markOriginS_callable markOriginS_msound (.nil tt_ok))) [(2, { n := 27, ty := .base .row, si := 5, sk := 1 })] (fn := Tryz.f81) (by kernel_rfl) fun x n => markRowS_den x n
theorem markValueS_callable : callable Tryz.prog 79 = true := by kernel_rfl
theorem markValueS_den (rmarkValueS : (List GVal) → Int → Option (List GVal × Int)) (a : List GVal) (b : Int) : denMF { tt := tt, fs := [markTextFS], ms := [markStringSMS, markRowSMS, { fid := 79, sh := ⟨false, .list (.base .val)⟩, fn := fun x n => rmarkValueS x n }] } [(2, { n := 63, ty := .base .val, si := 5, sk := 1 })] Tryz.f79 markValueSMS.sh a b = markValueSB rmarkValueS a b := by kernel_rfl
theorem markValueSG_msound : ∀ k, MSound Tryz.prog (markValueSMSN k)
  | 0 => fun w u x n r fps h => (by cases h)
  | k + 1 => msound_of_den (m := markValueSMSN (k + 1)) (E := { tt := tt, fs := [markTextFS], ms := [markStringSMS, markRowSMS, markValueSMSN k] }) (.cons markText_callable markText_sound (.consM markStringS_callable markStringS_msound (.consM markRowS_callable markRowS_msound (.consM markValueS_callable (markValueSG_msound k) (.nil tt_ok))))) [(2, { n := 63, ty := .base .val, si := 5, sk := 1 })] (fn := Tryz.f79) (by kernel_rfl) fun x n => markValueS_den _ x n
theorem markValueS_msound : MSound Tryz.prog markValueSMS := MSound.fuel (fid := 79) (sh := ⟨false, .list (.base .val)⟩) (G := fun k x n => markValueSG k x n) (f := fun x n => markValueS x n) markValueSG_msound (fun x => siz (α := List GVal) x + 1) (fun _ _ => rfl)
theorem markReadS_callable : callable Tryz.prog 53 = true := by kernel_rfl
theorem markReadS_den (a : List GRead) (b : Int) : denMF { tt := tt, fs := [markTextFS], ms := [markValueSMS, markStringSMS, markRowSMS] } [(2, { n := 99, ty := .base .read, si := 5, sk := 1 })] Tryz.f53 markReadSMS.sh a b = markReadS a b := by kernel_rfl
theorem markReadS_msound : MSound Tryz.prog markReadSMS :=
  msound_of_den (E := { tt := tt, fs := [markTextFS], ms := [markValueSMS, markStringSMS, markRowSMS] }) (.cons markText_callable markText_sound (.consM markValueS_callable markValueS_msound (.consM markStringS_callable markStringS_msound (.consM markRowS_callable markRowS_msound (.nil tt_ok))))) [(2, { n := 99, ty := .base .read, si := 5, sk := 1 })] (fn := Tryz.f53) (by kernel_rfl) fun x n => markReadS_den x n
theorem markOpS_callable : callable Tryz.prog 27 = true := by kernel_rfl
theorem markOpS_den (a : List GOp) (b : Int) : denMF { tt := tt, fs := [markTextFS], ms := [markIntSMS, markReadSMS] } [(2, { n := 150, ty := .base .op, si := 5, sk := 1 })] Tryz.f27 markOpSMS.sh a b = markOpS a b := by kernel_rfl
theorem markOpS_msound : MSound Tryz.prog markOpSMS :=
  msound_of_den (E := { tt := tt, fs := [markTextFS], ms := [markIntSMS, markReadSMS] }) (.cons markText_callable markText_sound (.consM markIntS_callable markIntS_msound (.consM markReadS_callable markReadS_msound (.nil tt_ok)))) [(2, { n := 150, ty := .base .op, si := 5, sk := 1 })] (fn := Tryz.f27) (by kernel_rfl) fun x n => markOpS_den x n
theorem markReplica_callable : callable Tryz.prog 10 = true := by kernel_rfl
theorem markReplica_den (a : GReplica) (b : Int) : denMF { tt := tt, fs := [], ms := [markOpSMS] } [] Tryz.f10 markReplicaMS.sh a b = markReplica a b := by kernel_rfl
theorem markReplica_msound : MSound Tryz.prog markReplicaMS :=
  msound_of_den (E := { tt := tt, fs := [], ms := [markOpSMS] }) (.consM markOpS_callable markOpS_msound (.nil tt_ok)) [] (fn := Tryz.f10) (by kernel_rfl) fun x n => markReplica_den x n
theorem heldIntS_callable : callable Tryz.prog 54 = true := by kernel_rfl
theorem heldIntS_den (a : List Int) (b : Int) : denF { tt := tt, fs := [] } [(2, { n := 21, its := [.t 0 (.ro (.list (.base .int))), .t 1 (.ro (.base .int)), .t 5 (.ro (.base .int))], boxes := [], ptrs := [] })] Tryz.f54 heldIntSFS.ps heldIntSFS.rs heldIntSFS.ex (a, b) = heldIntS a b := by kernel_rfl
theorem heldIntS_sound : Sound Tryz.prog heldIntSFS :=
  sound_of_den (E := { tt := tt, fs := [] }) (.nil tt_ok) mixed_ok [(2, { n := 21, its := [.t 0 (.ro (.list (.base .int))), .t 1 (.ro (.base .int)), .t 5 (.ro (.base .int))], boxes := [], ptrs := [] })] (fn := Tryz.f54) (by kernel_rfl) fun x => heldIntS_den x.1 x.2
theorem heldStringS_callable : callable Tryz.prog 83 = true := by kernel_rfl
theorem heldStringS_den (a : List Str) (b : Int) : denF { tt := tt, fs := [markTextFS] } [(2, { n := 22, its := [.t 0 (.ro (.list (.base .str))), .t 1 (.ro (.base .int)), .t 5 (.ro (.base .int))], boxes := [], ptrs := [] })] Tryz.f83 heldStringSFS.ps heldStringSFS.rs heldStringSFS.ex (a, b) = heldStringS a b := by kernel_rfl
theorem heldStringS_sound : Sound Tryz.prog heldStringSFS :=
  sound_of_den (E := { tt := tt, fs := [markTextFS] }) (.cons markText_callable markText_sound (.nil tt_ok)) mixed_ok [(2, { n := 22, its := [.t 0 (.ro (.list (.base .str))), .t 1 (.ro (.base .int)), .t 5 (.ro (.base .int))], boxes := [], ptrs := [] })] (fn := Tryz.f83) (by kernel_rfl) fun x => heldStringS_den x.1 x.2
theorem heldOriginS_callable : callable Tryz.prog 115 = true := by kernel_rfl
theorem heldOriginS_den (a : List GOrigin) (b : Int) : denF { tt := tt, fs := [] } [(2, { n := 31, its := [.t 0 (.ro (.list (.base .origin))), .t 1 (.ro (.base .int)), .t 5 (.ro (.base .int))], boxes := [], ptrs := [] })] Tryz.f115 heldOriginSFS.ps heldOriginSFS.rs heldOriginSFS.ex (a, b) = heldOriginS a b := by kernel_rfl
theorem heldOriginS_sound : Sound Tryz.prog heldOriginSFS :=
  sound_of_den (E := { tt := tt, fs := [] }) (.nil tt_ok) mixed_ok [(2, { n := 31, its := [.t 0 (.ro (.list (.base .origin))), .t 1 (.ro (.base .int)), .t 5 (.ro (.base .int))], boxes := [], ptrs := [] })] (fn := Tryz.f115) (by kernel_rfl) fun x => heldOriginS_den x.1 x.2
theorem heldRowS_callable : callable Tryz.prog 84 = true := by kernel_rfl
theorem heldRowS_den (a : List GRow) (b : Int) : denF { tt := tt, fs := [heldIntSFS, heldOriginSFS] } [(2, { n := 31, its := [.t 0 (.ro (.list (.base .row))), .t 1 (.ro (.base .int)), .t 5 (.ro (.base .int))], boxes := [], ptrs := [] })] Tryz.f84 heldRowSFS.ps heldRowSFS.rs heldRowSFS.ex (a, b) = heldRowS a b := by kernel_rfl
theorem heldRowS_sound : Sound Tryz.prog heldRowSFS :=
  sound_of_den (E := { tt := tt, fs := [heldIntSFS, heldOriginSFS] }) (.cons heldIntS_callable heldIntS_sound (.cons heldOriginS_callable heldOriginS_sound (.nil tt_ok))) mixed_ok [(2, { n := 31, its := [.t 0 (.ro (.list (.base .row))), .t 1 (.ro (.base .int)), .t 5 (.ro (.base .int))], boxes := [], ptrs := [] })] (fn := Tryz.f84) (by kernel_rfl) fun x => heldRowS_den x.1 x.2
theorem heldValueS_callable : callable Tryz.prog 82 = true := by kernel_rfl
theorem heldValueS_den (rheldValueS : (List GVal) → Int → Option (Int)) (a : List GVal) (b : Int) : denF { tt := tt, fs := [markTextFS, heldStringSFS, heldRowSFS, { fid := 82, ps := [⟨false, .list (.base .val)⟩, ⟨false, .base .int⟩], rs := [⟨false, .base .int⟩], ex := true, fn := fun x => rheldValueS x.1 x.2 }] } [(2, { n := 77, its := [.t 0 (.ro (.list (.base .val))), .t 1 (.ro (.base .int)), .t 5 (.ro (.base .int))], boxes := [], ptrs := [] })] Tryz.f82 heldValueSFS.ps heldValueSFS.rs heldValueSFS.ex (a, b) = heldValueSB rheldValueS a b := by kernel_rfl
theorem heldValueSG_sound : ∀ n, Sound Tryz.prog (heldValueSFSN n)
  | 0 => (fun w S args x y h => by cases h)
  | n + 1 => by
    have ih := heldValueSG_sound n
    exact sound_of_den (s := heldValueSFSN (n + 1)) (E := { tt := tt, fs := [markTextFS, heldStringSFS, heldRowSFS, heldValueSFSN n] }) (.cons markText_callable markText_sound (.cons heldStringS_callable heldStringS_sound (.cons heldRowS_callable heldRowS_sound (.cons heldValueS_callable ih (.nil tt_ok))))) mixed_ok [(2, { n := 77, its := [.t 0 (.ro (.list (.base .val))), .t 1 (.ro (.base .int)), .t 5 (.ro (.base .int))], boxes := [], ptrs := [] })] (fn := Tryz.f82) (by kernel_rfl) fun x => heldValueS_den _ x.1 x.2
theorem heldValueS_sound : Sound Tryz.prog heldValueSFS := fun w S args x y h => (heldValueSG_sound (siz (α := List GVal) x.1 + 1)) w S args x y h
theorem heldReadS_callable : callable Tryz.prog 55 = true := by kernel_rfl
theorem heldReadS_den (a : List GRead) (b : Int) : denF { tt := tt, fs := [markTextFS, heldValueSFS, heldStringSFS, heldRowSFS] } [(2, { n := 121, its := [.t 0 (.ro (.list (.base .read))), .t 1 (.ro (.base .int)), .t 5 (.ro (.base .int))], boxes := [], ptrs := [] })] Tryz.f55 heldReadSFS.ps heldReadSFS.rs heldReadSFS.ex (a, b) = heldReadS a b := by kernel_rfl
theorem heldReadS_sound : Sound Tryz.prog heldReadSFS :=
  sound_of_den (E := { tt := tt, fs := [markTextFS, heldValueSFS, heldStringSFS, heldRowSFS] }) (.cons markText_callable markText_sound (.cons heldValueS_callable heldValueS_sound (.cons heldStringS_callable heldStringS_sound (.cons heldRowS_callable heldRowS_sound (.nil tt_ok))))) mixed_ok [(2, { n := 121, its := [.t 0 (.ro (.list (.base .read))), .t 1 (.ro (.base .int)), .t 5 (.ro (.base .int))], boxes := [], ptrs := [] })] (fn := Tryz.f55) (by kernel_rfl) fun x => heldReadS_den x.1 x.2
theorem heldOpS_callable : callable Tryz.prog 28 = true := by kernel_rfl
theorem heldOpS_den (a : List GOp) (b : Int) : denF { tt := tt, fs := [markTextFS, heldIntSFS, heldReadSFS] } [(2, { n := 184, its := [.t 0 (.ro (.list (.base .op))), .t 1 (.ro (.base .int)), .t 5 (.ro (.base .int))], boxes := [], ptrs := [] })] Tryz.f28 heldOpSFS.ps heldOpSFS.rs heldOpSFS.ex (a, b) = heldOpS a b := by kernel_rfl
theorem heldOpS_sound : Sound Tryz.prog heldOpSFS :=
  sound_of_den (E := { tt := tt, fs := [markTextFS, heldIntSFS, heldReadSFS] }) (.cons markText_callable markText_sound (.cons heldIntS_callable heldIntS_sound (.cons heldReadS_callable heldReadS_sound (.nil tt_ok)))) mixed_ok [(2, { n := 184, its := [.t 0 (.ro (.list (.base .op))), .t 1 (.ro (.base .int)), .t 5 (.ro (.base .int))], boxes := [], ptrs := [] })] (fn := Tryz.f28) (by kernel_rfl) fun x => heldOpS_den x.1 x.2
theorem heldReplica_callable : callable Tryz.prog 11 = true := by kernel_rfl
theorem heldReplica_den (a : GReplica) (b : Int) : denF { tt := tt, fs := [heldOpSFS] } [] Tryz.f11 heldReplicaFS.ps heldReplicaFS.rs heldReplicaFS.ex (a, b) = heldReplica a b := by kernel_rfl
theorem heldReplica_sound : Sound Tryz.prog heldReplicaFS :=
  sound_of_den (E := { tt := tt, fs := [heldOpSFS] }) (.cons heldOpS_callable heldOpS_sound (.nil tt_ok)) mixed_ok [] (fn := Tryz.f11) (by kernel_rfl) fun x => heldReplica_den x.1 x.2
theorem FnExactPull_callable : callable Tryz.prog 3 = true := by kernel_rfl
theorem FnExactPull_den (a : GReplica) (b : GReplica) : denF { tt := tt, fs := [szReplicaFS, toReplicaFS, iPullFS, eqReplicaFS, heldReplicaFS], ms := [markReplicaMS], trees := true, ss := [sPullFS] } [] Tryz.f3 FnExactPullFS.ps FnExactPullFS.rs FnExactPullFS.ex (a, b) = FnExactPull a b := by kernel_rfl
theorem FnExactPull_sound : Sound Tryz.prog FnExactPullFS :=
  sound_of_den (E := { tt := tt, fs := [szReplicaFS, toReplicaFS, iPullFS, eqReplicaFS, heldReplicaFS], ms := [markReplicaMS], trees := true, ss := [sPullFS] }) (.cons szReplica_callable szReplica_sound (.cons toReplica_callable toReplica_sound (.cons iPull_callable iPull_sound (.cons eqReplica_callable eqReplica_sound (.cons heldReplica_callable heldReplica_sound (.consM markReplica_callable markReplica_msound (.consS sPull_callable sPull_sound (.nil tt_ok)))))))) mixed_ok [] (fn := Tryz.f3) (by kernel_rfl) fun x => FnExactPull_den x.1 x.2
theorem big_callable : callable Tryz.prog 12 = true := by kernel_rfl
theorem big_den (a : List Int) : denF { tt := tt, fs := [] } [] Tryz.f12 bigFS.ps bigFS.rs bigFS.ex a = big a := by kernel_rfl
theorem big_sound : Sound Tryz.prog bigFS :=
  sound_of_den (E := { tt := tt, fs := [] }) (.nil tt_ok) mixed_ok [] (fn := Tryz.f12) (by kernel_rfl) fun x => big_den x
theorem sL1New_callable : callable Tryz.prog 29 = true := by kernel_rfl
theorem sL1New_den (a : List Int) : denN { tt := tt, fs := [] } [(3, { n := 32, its := [.t 0 (.ro (.list (.base .u8))), .t 3 (.ro (.base .int)), .t 4 (.ro (.base .int))], boxes := [], ptrs := [] })] Tryz.f29 sL1NewFS.ps sL1NewFS.rs a = sL1New a := by kernel_rfl
theorem sL1New_sound : NSound Tryz.prog sL1NewFS :=
  nsound_of_den (E := { tt := tt, fs := [] }) (.nil tt_ok) mixed_ok [(3, { n := 32, its := [.t 0 (.ro (.list (.base .u8))), .t 3 (.ro (.base .int)), .t 4 (.ro (.base .int))], boxes := [], ptrs := [] })] (fn := Tryz.f29) (by kernel_rfl) fun x => sL1New_den x
theorem sL1Byte_callable : callable Tryz.prog 85 = true := by kernel_rfl
theorem sL1Byte_den (a : GCur) : denB { tt := tt, fs := [] } [] Tryz.f85 sL1ByteFS.ps sL1ByteFS.rs sL1ByteFS.sh a = sL1Byte a := by kernel_rfl
theorem sL1Byte_sound : BSound Tryz.prog sL1ByteFS :=
  bsound_of_den (E := { tt := tt, fs := [] }) (.nil tt_ok) mixed_ok [] (fn := Tryz.f85) (by kernel_rfl) fun x => sL1Byte_den x
theorem sL1Below_callable : callable Tryz.prog 57 = true := by kernel_rfl
theorem sL1Below_den (a : GCur) (b : Int) : denB { tt := tt, fs := [], bs := [sL1ByteFS] } [] Tryz.f57 sL1BelowFS.ps sL1BelowFS.rs sL1BelowFS.sh (a, b) = sL1Below a b := by kernel_rfl
theorem sL1Below_sound : BSound Tryz.prog sL1BelowFS :=
  bsound_of_den (E := { tt := tt, fs := [], bs := [sL1ByteFS] }) (.consB sL1Byte_callable sL1Byte_sound (.nil tt_ok)) mixed_ok [] (fn := Tryz.f57) (by kernel_rfl) fun x => sL1Below_den x.1 x.2
theorem sL1Once_callable : callable Tryz.prog 40 = true := by kernel_rfl
theorem sL1Once_den (a : GCur) (b : Int) : denB { tt := tt, fs := [], bs := [sL1BelowFS] } [] Tryz.f40 sL1OnceFS.ps sL1OnceFS.rs sL1OnceFS.sh (a, b) = sL1Once a b := by kernel_rfl
theorem sL1Once_sound : BSound Tryz.prog sL1OnceFS :=
  bsound_of_den (E := { tt := tt, fs := [], bs := [sL1BelowFS] }) (.consB sL1Below_callable sL1Below_sound (.nil tt_ok)) mixed_ok [] (fn := Tryz.f40) (by kernel_rfl) fun x => sL1Once_den x.1 x.2
theorem sNewReplica_callable : callable Tryz.prog 56 = true := by kernel_rfl
theorem sNewReplica_den (a : Int) : denF { tt := tt, fs := [sL1InFS] } [] Tryz.f56 sNewReplicaFS.ps sNewReplicaFS.rs sNewReplicaFS.ex a = sNewReplica a := by kernel_rfl
theorem sNewReplica_sound : Sound Tryz.prog sNewReplicaFS :=
  sound_of_den (E := { tt := tt, fs := [sL1InFS] }) (.cons sL1In_callable sL1In_sound (.nil tt_ok)) mixed_ok [] (fn := Tryz.f56) (by kernel_rfl) fun x => sNewReplica_den x
theorem sL1Max_callable : callable Tryz.prog 116 = true := by kernel_rfl
theorem sL1Max_den (a : Int) (b : Int) : denF { tt := tt, fs := [] } [] Tryz.f116 sL1MaxFS.ps sL1MaxFS.rs sL1MaxFS.ex (a, b) = sL1Max a b := by kernel_rfl
theorem sL1Max_sound : Sound Tryz.prog sL1MaxFS :=
  sound_of_den (E := { tt := tt, fs := [] }) (.nil tt_ok) mixed_ok [] (fn := Tryz.f116) (by kernel_rfl) fun x => sL1Max_den x.1 x.2
theorem sLastTime_callable : callable Tryz.prog 86 = true := by kernel_rfl
theorem sLastTime_den (a : List GOp) : denF { tt := tt, fs := [sL1MaxFS] } [(3, { n := 19, its := [.t 0 (.ro (.list (.base .op))), .t 3 (.ro (.base .int)), .t 4 (.ro (.base .int))], boxes := [], ptrs := [] })] Tryz.f86 sLastTimeFS.ps sLastTimeFS.rs sLastTimeFS.ex a = sLastTime a := by kernel_rfl
theorem sLastTime_sound : Sound Tryz.prog sLastTimeFS :=
  sound_of_den (E := { tt := tt, fs := [sL1MaxFS] }) (.cons sL1Max_callable sL1Max_sound (.nil tt_ok)) mixed_ok [(3, { n := 19, its := [.t 0 (.ro (.list (.base .op))), .t 3 (.ro (.base .int)), .t 4 (.ro (.base .int))], boxes := [], ptrs := [] })] (fn := Tryz.f86) (by kernel_rfl) fun x => sLastTime_den x
theorem sCountBy_callable : callable Tryz.prog 89 = true := by kernel_rfl
theorem sCountBy_den (a : List GOp) (b : Int) : denF { tt := tt, fs := [] } [(3, { n := 23, its := [.t 0 (.ro (.list (.base .op))), .t 1 (.ro (.base .int)), .t 5 (.ro (.base .int)), .t 6 (.ro (.base .int))], boxes := [], ptrs := [] })] Tryz.f89 sCountByFS.ps sCountByFS.rs sCountByFS.ex (a, b) = sCountBy a b := by kernel_rfl
theorem sCountBy_sound : Sound Tryz.prog sCountByFS :=
  sound_of_den (E := { tt := tt, fs := [] }) (.nil tt_ok) mixed_ok [(3, { n := 23, its := [.t 0 (.ro (.list (.base .op))), .t 1 (.ro (.base .int)), .t 5 (.ro (.base .int)), .t 6 (.ro (.base .int))], boxes := [], ptrs := [] })] (fn := Tryz.f89) (by kernel_rfl) fun x => sCountBy_den x.1 x.2
theorem sSeenBy_callable : callable Tryz.prog 87 = true := by kernel_rfl
theorem sSeenBy_den (a : GReplica) : denF { tt := tt, fs := [sCountByFS] } [(3, { n := 18, its := [.b 1 0 (.ro (.base .int)), .b 1 1 (.ro (.list (.base .op))), .t 3 (.own (.base .int) true true 0), .t 4 (.ro (.base .int))], boxes := [(1, 2)], ptrs := [(1, 1, 0)] })] Tryz.f87 sSeenByFS.ps sSeenByFS.rs sSeenByFS.ex a = sSeenBy a := by kernel_rfl
theorem sSeenBy_sound : Sound Tryz.prog sSeenByFS :=
  sound_of_den (E := { tt := tt, fs := [sCountByFS] }) (.cons sCountBy_callable sCountBy_sound (.nil tt_ok)) mixed_ok [(3, { n := 18, its := [.b 1 0 (.ro (.base .int)), .b 1 1 (.ro (.list (.base .op))), .t 3 (.own (.base .int) true true 0), .t 4 (.ro (.base .int))], boxes := [(1, 2)], ptrs := [(1, 1, 0)] })] (fn := Tryz.f87) (by kernel_rfl) fun x => sSeenBy_den x
theorem sAddOp_callable : callable Tryz.prog 58 = true := by kernel_rfl
theorem sAddOp_den (a : GReplica) (b : GOp) : denF { tt := tt, fs := [sIsValidReplicaFS, sL43CopyFS, sL41CopyFS, sLastTimeFS, sSeenByFS] } [] Tryz.f58 sAddOpFS.ps sAddOpFS.rs sAddOpFS.ex (a, b) = sAddOp a b := by kernel_rfl
theorem sAddOp_sound : Sound Tryz.prog sAddOpFS :=
  sound_of_den (E := { tt := tt, fs := [sIsValidReplicaFS, sL43CopyFS, sL41CopyFS, sLastTimeFS, sSeenByFS] }) (.cons sIsValidReplica_callable sIsValidReplica_sound (.cons sL43Copy_callable sL43Copy_sound (.cons sL41Copy_callable sL41Copy_sound (.cons sLastTime_callable sLastTime_sound (.cons sSeenBy_callable sSeenBy_sound (.nil tt_ok)))))) mixed_ok [] (fn := Tryz.f58) (by kernel_rfl) fun x => sAddOp_den x.1 x.2
theorem sL1PickInt_callable : callable Tryz.prog 107 = true := by kernel_rfl
theorem sL1PickInt_den (a : GCur) (b : List Int) : denB { tt := tt, fs := [], bs := [sL1BelowFS] } [] Tryz.f107 sL1PickIntFS.ps sL1PickIntFS.rs sL1PickIntFS.sh (a, b) = sL1PickInt a b := by kernel_rfl
theorem sL1PickInt_sound : BSound Tryz.prog sL1PickIntFS :=
  bsound_of_den (E := { tt := tt, fs := [], bs := [sL1BelowFS] }) (.consB sL1Below_callable sL1Below_sound (.nil tt_ok)) mixed_ok [] (fn := Tryz.f107) (by kernel_rfl) fun x => sL1PickInt_den x.1 x.2
theorem sL1Pick_callable : callable Tryz.prog 90 = true := by kernel_rfl
theorem sL1Pick_den (a : GCur) (b : List Str) : denB { tt := tt, fs := [], bs := [sL1BelowFS] } [] Tryz.f90 sL1PickFS.ps sL1PickFS.rs sL1PickFS.sh (a, b) = sL1Pick a b := by kernel_rfl
theorem sL1Pick_sound : BSound Tryz.prog sL1PickFS :=
  bsound_of_den (E := { tt := tt, fs := [], bs := [sL1BelowFS] }) (.consB sL1Below_callable sL1Below_sound (.nil tt_ok)) mixed_ok [] (fn := Tryz.f90) (by kernel_rfl) fun x => sL1Pick_den x.1 x.2
theorem sFormatInt_callable : callable Tryz.prog 130 = true := by kernel_rfl
theorem sFormatInt_den (a : Int) : denF { tt := tt, fs := [] } [(5, { n := 31, its := [.t 0 (.ro (.base .int)), .t 3 (.ro (.base .bool)), .t 4 (.ro (.base .str))], boxes := [], ptrs := [] })] Tryz.f130 sFormatIntFS.ps sFormatIntFS.rs sFormatIntFS.ex a = sFormatInt a := by kernel_rfl
theorem sFormatInt_sound : Sound Tryz.prog sFormatIntFS :=
  sound_of_den (E := { tt := tt, fs := [] }) (.nil tt_ok) mixed_ok [(5, { n := 31, its := [.t 0 (.ro (.base .int)), .t 3 (.ro (.base .bool)), .t 4 (.ro (.base .str))], boxes := [], ptrs := [] })] (fn := Tryz.f130) (by kernel_rfl) fun x => sFormatInt_den x
theorem sL10Num_callable : callable Tryz.prog 154 = true := by kernel_rfl
theorem sL10Num_den (a : Int) : denF { tt := tt, fs := [] } [] Tryz.f154 sL10NumFS.ps sL10NumFS.rs sL10NumFS.ex a = sL10Num a := by kernel_rfl
theorem sL10Num_sound : Sound Tryz.prog sL10NumFS :=
  sound_of_den (E := { tt := tt, fs := [] }) (.nil tt_ok) mixed_ok [] (fn := Tryz.f154) (by kernel_rfl) fun x => sL10Num_den x
theorem sL10Name_callable : callable Tryz.prog 162 = true := by kernel_rfl
theorem sL10Name_den (a : Str) : denF { tt := tt, fs := [] } [] Tryz.f162 sL10NameFS.ps sL10NameFS.rs sL10NameFS.ex a = sL10Name a := by kernel_rfl
theorem sL10Name_sound : Sound Tryz.prog sL10NameFS :=
  sound_of_den (E := { tt := tt, fs := [] }) (.nil tt_ok) mixed_ok [] (fn := Tryz.f162) (by kernel_rfl) fun x => sL10Name_den x
theorem sL10Leaf_callable : callable Tryz.prog 149 = true := by kernel_rfl
theorem sL10Leaf_den (a : GCur) (b : List Str) : denB { tt := tt, fs := [sL10NumFS, sL10NameFS], bs := [sL1BelowFS, sL1PickFS] } [] Tryz.f149 sL10LeafFS.ps sL10LeafFS.rs sL10LeafFS.sh (a, b) = sL10Leaf a b := by kernel_rfl
theorem sL10Leaf_sound : BSound Tryz.prog sL10LeafFS :=
  bsound_of_den (E := { tt := tt, fs := [sL10NumFS, sL10NameFS], bs := [sL1BelowFS, sL1PickFS] }) (.cons sL10Num_callable sL10Num_sound (.cons sL10Name_callable sL10Name_sound (.consB sL1Below_callable sL1Below_sound (.consB sL1Pick_callable sL1Pick_sound (.nil tt_ok))))) mixed_ok [] (fn := Tryz.f149) (by kernel_rfl) fun x => sL10Leaf_den x.1 x.2
theorem sL10Op_callable : callable Tryz.prog 150 = true := by kernel_rfl
theorem sL10Op_den (a : Int) (b : GExpr) (c : GExpr) : denS { tt := tt, fs := [] } [] Tryz.f150 sL10OpFS.ps sL10OpFS.rs (a, b, c) = sL10Op a b c := by kernel_rfl
theorem sL10Op_sound : SSound Tryz.prog sL10OpFS :=
  ssound_of_den (E := { tt := tt, fs := [] }) (.nil tt_ok) mixed_ok [] (fn := Tryz.f150) (by kernel_rfl) fun x => sL10Op_den x.1 x.2.1 x.2.2
theorem sL10List_callable : callable Tryz.prog 151 = true := by kernel_rfl
theorem sL10List_den (a : GCur) (b : List Str) : denB { tt := tt, fs := [sL10NumFS], bs := [sL1OnceFS, sL1BelowFS, sL10LeafFS] } [(4, { n := 34, its := [.b 0 0 (.ro (.list (.base .u8))), .b 0 1 (.ro (.base .int)), .b 0 2 (.ro (.base .int)), .t 1 (.ro (.list (.base .str))), .b 4 0 (.ro (.base .int)), .b 4 1 (.ro (.base .int)), .b 4 2 (.ro (.base .str)), .b 4 3 (.own (.base .expr) true true 0), .b 5 0 (.ro (.base .int)), .b 5 1 (.ro (.base .int)), .b 5 2 (.ro (.base .str)), .b 5 3 (.own (.base .expr) false true 1), .t 6 (.ro (.base .int)), .t 7 (.ro (.base .int))], boxes := [(0, 3), (4, 4), (5, 4)], ptrs := [(0, 0, 0), (4, 4, 0), (5, 5, 0)] })] Tryz.f151 sL10ListFS.ps sL10ListFS.rs sL10ListFS.sh (a, b) = sL10List a b := by kernel_rfl
theorem sL10List_sound : BSound Tryz.prog sL10ListFS :=
  bsound_of_den (E := { tt := tt, fs := [sL10NumFS], bs := [sL1OnceFS, sL1BelowFS, sL10LeafFS] }) (.cons sL10Num_callable sL10Num_sound (.consB sL1Once_callable sL1Once_sound (.consB sL1Below_callable sL1Below_sound (.consB sL10Leaf_callable sL10Leaf_sound (.nil tt_ok))))) mixed_ok [(4, { n := 34, its := [.b 0 0 (.ro (.list (.base .u8))), .b 0 1 (.ro (.base .int)), .b 0 2 (.ro (.base .int)), .t 1 (.ro (.list (.base .str))), .b 4 0 (.ro (.base .int)), .b 4 1 (.ro (.base .int)), .b 4 2 (.ro (.base .str)), .b 4 3 (.own (.base .expr) true true 0), .b 5 0 (.ro (.base .int)), .b 5 1 (.ro (.base .int)), .b 5 2 (.ro (.base .str)), .b 5 3 (.own (.base .expr) false true 1), .t 6 (.ro (.base .int)), .t 7 (.ro (.base .int))], boxes := [(0, 3), (4, 4), (5, 4)], ptrs := [(0, 0, 0), (4, 4, 0), (5, 5, 0)] })] (fn := Tryz.f151) (by kernel_rfl) fun x => sL10List_den x.1 x.2
end Go.Proofs.YtijhfajcbmpndaaGreat
