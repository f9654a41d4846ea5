/- The functions compute their models, by gen.py. -/
import Derived.Test.YtmfhbmfadapdbaaDen3
namespace Go.Proofs.Ytmfhbmfadapdbaa
open Go.Abs Go.Proofs
set_option maxRecDepth 100000
theorem toRow_callable : callable Try.prog 236 = true := by kernel_rfl
theorem toRow_den (a : GRow) : denF { tt := tt, fs := [toIntSFS, toOriginSFS] } [] Try.f236 toRowFS.ps toRowFS.rs toRowFS.ex a = toRow a := by kernel_rfl
theorem toRow_sound : Sound Try.prog toRowFS :=
  sound_of_den (E := { tt := tt, fs := [toIntSFS, toOriginSFS] }) (.cons toIntS_callable toIntS_sound (.cons toOriginS_callable toOriginS_sound (.nil tt_ok))) mixed_ok [] (fn := Try.f236) (by kernel_rfl) fun x => toRow_den x
theorem toRowS_callable : callable Try.prog 225 = true := by kernel_rfl
theorem toRowS_den (a : List GRow) : denF { tt := tt, fs := [toRowFS] } [(3, { n := 23, its := [.t 0 (.ro (.list (.base .row))), .t 3 (.own (.base .row) true true 0), .t 4 (.ro (.base .int))], boxes := [], ptrs := [] })] Try.f225 toRowSFS.ps toRowSFS.rs toRowSFS.ex a = toRowS a := by kernel_rfl
theorem toRowS_sound : Sound Try.prog toRowSFS :=
  sound_of_den (E := { tt := tt, fs := [toRowFS] }) (.cons toRow_callable toRow_sound (.nil tt_ok)) mixed_ok [(3, { n := 23, its := [.t 0 (.ro (.list (.base .row))), .t 3 (.own (.base .row) true true 0), .t 4 (.ro (.base .int))], boxes := [], ptrs := [] })] (fn := Try.f225) (by kernel_rfl) fun x => toRowS_den x
theorem toValue_callable : callable Try.prog 196 = true := by kernel_rfl
theorem toValueS_callable : callable Try.prog 223 = true := by kernel_rfl
theorem toValue_den (rtoValue : GVal → Option (GVal)) (rtoValueS : (List GVal) → Option ((List GVal))) (a : GVal) : denF { tt := tt, fs := [toStringSFS, toRowSFS, { fid := 196, ps := [⟨true, .base .val⟩], rs := [⟨true, .base .val⟩], ex := true, fn := fun x => rtoValue x }, { fid := 223, ps := [⟨false, .list (.base .val)⟩], rs := [⟨false, .list (.base .val)⟩], ex := true, fn := fun x => rtoValueS x }] } [] Try.f196 toValueFS.ps toValueFS.rs toValueFS.ex a = toValueB rtoValue rtoValueS a := by kernel_rfl
theorem toValueS_den (rtoValue : GVal → Option (GVal)) (rtoValueS : (List GVal) → Option ((List GVal))) (a : List GVal) : denF { tt := tt, fs := [toStringSFS, toRowSFS, { fid := 196, ps := [⟨true, .base .val⟩], rs := [⟨true, .base .val⟩], ex := true, fn := fun x => rtoValue x }, { fid := 223, ps := [⟨false, .list (.base .val)⟩], rs := [⟨false, .list (.base .val)⟩], ex := true, fn := fun x => rtoValueS x }] } [(3, { n := 23, its := [.t 0 (.ro (.list (.base .val))), .t 3 (.own (.base .val) true true 0), .t 4 (.ro (.base .int))], boxes := [], ptrs := [] })] Try.f223 toValueSFS.ps toValueSFS.rs toValueSFS.ex a = toValueSB rtoValue rtoValueS a := by kernel_rfl
theorem toValueG_sound : ∀ n, Sound Try.prog (toValueFSN n) ∧ Sound Try.prog (toValueSFSN n)
  | 0 => ⟨(fun w S args x y h => by cases h), (fun w S args x y h => by cases h)⟩
  | n + 1 => by
    have ih := toValueG_sound n
    exact ⟨sound_of_den (s := toValueFSN (n + 1)) (E := { tt := tt, fs := [toStringSFS, toRowSFS, toValueFSN n, toValueSFSN n] }) (.cons toStringS_callable toStringS_sound (.cons toRowS_callable toRowS_sound (.cons toValue_callable ih.1 (.cons toValueS_callable ih.2 (.nil tt_ok))))) mixed_ok [] (fn := Try.f196) (by kernel_rfl) fun x => toValue_den _ _ x, sound_of_den (s := toValueSFSN (n + 1)) (E := { tt := tt, fs := [toStringSFS, toRowSFS, toValueFSN n, toValueSFSN n] }) (.cons toStringS_callable toStringS_sound (.cons toRowS_callable toRowS_sound (.cons toValue_callable ih.1 (.cons toValueS_callable ih.2 (.nil tt_ok))))) mixed_ok [(3, { n := 23, its := [.t 0 (.ro (.list (.base .val))), .t 3 (.own (.base .val) true true 0), .t 4 (.ro (.base .int))], boxes := [], ptrs := [] })] (fn := Try.f223) (by kernel_rfl) fun x => toValueS_den _ _ x⟩
theorem toValue_sound : Sound Try.prog toValueFS := fun w S args x y h => (toValueG_sound (siz (α := GVal) x + 1)).1 w S args x y h
theorem toValueS_sound : Sound Try.prog toValueSFS := fun w S args x y h => (toValueG_sound (siz (α := List GVal) x + 1)).2 w S args x y h
theorem toRead_callable : callable Try.prog 174 = true := by kernel_rfl
theorem toRead_den (a : GRead) : denF { tt := tt, fs := [toValueFS] } [] Try.f174 toReadFS.ps toReadFS.rs toReadFS.ex a = toRead a := by kernel_rfl
theorem toRead_sound : Sound Try.prog toReadFS :=
  sound_of_den (E := { tt := tt, fs := [toValueFS] }) (.cons toValue_callable toValue_sound (.nil tt_ok)) mixed_ok [] (fn := Try.f174) (by kernel_rfl) fun x => toRead_den x
theorem toReadS_callable : callable Try.prog 127 = true := by kernel_rfl
theorem toReadS_den (a : List GRead) : denF { tt := tt, fs := [toReadFS] } [(3, { n := 23, its := [.t 0 (.ro (.list (.base .read))), .t 3 (.own (.base .read) true true 0), .t 4 (.ro (.base .int))], boxes := [], ptrs := [] })] Try.f127 toReadSFS.ps toReadSFS.rs toReadSFS.ex a = toReadS a := by kernel_rfl
theorem toReadS_sound : Sound Try.prog toReadSFS :=
  sound_of_den (E := { tt := tt, fs := [toReadFS] }) (.cons toRead_callable toRead_sound (.nil tt_ok)) mixed_ok [(3, { n := 23, its := [.t 0 (.ro (.list (.base .read))), .t 3 (.own (.base .read) true true 0), .t 4 (.ro (.base .int))], boxes := [], ptrs := [] })] (fn := Try.f127) (by kernel_rfl) fun x => toReadS_den x
theorem toOp_callable : callable Try.prog 57 = true := by kernel_rfl
theorem toOp_den (a : GOp) : denF { tt := tt, fs := [toIntSFS, toEditFS, toReadSFS] } [] Try.f57 toOpFS.ps toOpFS.rs toOpFS.ex a = toOp a := by kernel_rfl
theorem toOp_sound : Sound Try.prog toOpFS :=
  sound_of_den (E := { tt := tt, fs := [toIntSFS, toEditFS, toReadSFS] }) (.cons toIntS_callable toIntS_sound (.cons toEdit_callable toEdit_sound (.cons toReadS_callable toReadS_sound (.nil tt_ok)))) mixed_ok [] (fn := Try.f57) (by kernel_rfl) fun x => toOp_den x
theorem toOpS_callable : callable Try.prog 64 = true := by kernel_rfl
theorem toOpS_den (a : List GOp) : denF { tt := tt, fs := [toOpFS] } [(3, { n := 23, its := [.t 0 (.ro (.list (.base .op))), .t 3 (.own (.base .op) true true 0), .t 4 (.ro (.base .int))], boxes := [], ptrs := [] })] Try.f64 toOpSFS.ps toOpSFS.rs toOpSFS.ex a = toOpS a := by kernel_rfl
theorem toOpS_sound : Sound Try.prog toOpSFS :=
  sound_of_den (E := { tt := tt, fs := [toOpFS] }) (.cons toOp_callable toOp_sound (.nil tt_ok)) mixed_ok [(3, { n := 23, its := [.t 0 (.ro (.list (.base .op))), .t 3 (.own (.base .op) true true 0), .t 4 (.ro (.base .int))], boxes := [], ptrs := [] })] (fn := Try.f64) (by kernel_rfl) fun x => toOpS_den x
theorem toReplica_callable : callable Try.prog 38 = true := by kernel_rfl
theorem toReplica_den (a : GReplica) : denF { tt := tt, fs := [toOpSFS] } [] Try.f38 toReplicaFS.ps toReplicaFS.rs toReplicaFS.ex a = toReplica a := by kernel_rfl
theorem toReplica_sound : Sound Try.prog toReplicaFS :=
  sound_of_den (E := { tt := tt, fs := [toOpSFS] }) (.cons toOpS_callable toOpS_sound (.nil tt_ok)) mixed_ok [] (fn := Try.f38) (by kernel_rfl) fun x => toReplica_den x
theorem iCountBy_callable : callable Try.prog 102 = true := by kernel_rfl
theorem iCountBy_den (a : List GOp) (b : Int) : denF { tt := tt, fs := [] } [(3, { n := 22, its := [.t 1 (.ro (.base .int)), .t 5 (.ro (.base .int)), .t 8 (.ro (.list (.base .op))), .t 9 (.ro (.base .int)), .t 10 (.ro (.base .int))], boxes := [], ptrs := [] })] Try.f102 iCountByFS.ps iCountByFS.rs iCountByFS.ex (a, b) = iCountBy a b := by kernel_rfl
theorem iCountBy_sound : Sound Try.prog iCountByFS :=
  sound_of_den (E := { tt := tt, fs := [] }) (.nil tt_ok) mixed_ok [(3, { n := 22, its := [.t 1 (.ro (.base .int)), .t 5 (.ro (.base .int)), .t 8 (.ro (.list (.base .op))), .t 9 (.ro (.base .int)), .t 10 (.ro (.base .int))], boxes := [], ptrs := [] })] (fn := Try.f102) (by kernel_rfl) fun x => iCountBy_den x.1 x.2
theorem iCopyRow_callable : callable Try.prog 216 = true := by kernel_rfl
theorem iCopyRow_den (a : GRow) : denF { tt := tt, fs := [] } [] Try.f216 iCopyRowFS.ps iCopyRowFS.rs iCopyRowFS.ex a = iCopyRow a := by kernel_rfl
theorem iCopyRow_sound : Sound Try.prog iCopyRowFS :=
  sound_of_den (E := { tt := tt, fs := [] }) (.nil tt_ok) mixed_ok [] (fn := Try.f216) (by kernel_rfl) fun x => iCopyRow_den x
theorem iCopyValue_callable : callable Try.prog 189 = true := by kernel_rfl
theorem iCopyValues_callable : callable Try.prog 215 = true := by kernel_rfl
theorem iCopyValue_den (riCopyValue : GVal → Option (GVal)) (riCopyValues : (List GVal) → Option ((List GVal))) (a : GVal) : denF { tt := tt, fs := [iCopyRowFS, { fid := 189, ps := [⟨true, .base .val⟩], rs := [⟨true, .base .val⟩], ex := true, fn := fun x => riCopyValue x }, { fid := 215, ps := [⟨false, .list (.base .val)⟩], rs := [⟨false, .list (.base .val)⟩], ex := true, fn := fun x => riCopyValues x }] } [(6, { n := 33, its := [.b 2 0 (.ro (.base .int)), .b 2 1 (.ro (.base .int)), .b 2 2 (.ro (.base .int)), .b 2 3 (.ro (.base .str)), .b 2 4 (.own (.base .val) true true 0), .b 2 5 (.own (.base .str) true true 4), .b 2 6 (.own (.base .row) true true 6), .b 3 0 (.ro (.base .int)), .b 3 1 (.ro (.base .int)), .b 3 2 (.ro (.base .int)), .b 3 3 (.ro (.base .str)), .b 3 4 (.own (.base .val) true true 7), .b 3 5 (.own (.base .str) true true 8), .b 3 6 (.own (.base .row) true true 10), .t 18 (.ro (.list (.base .row))), .t 19 (.ro (.base .int)), .t 20 (.ro (.base .int))], boxes := [(2, 7), (3, 7)], ptrs := [(2, 2, 0), (3, 3, 0)] })] Try.f189 iCopyValueFS.ps iCopyValueFS.rs iCopyValueFS.ex a = iCopyValueB riCopyValue riCopyValues a := by kernel_rfl
theorem iCopyValues_den (riCopyValue : GVal → Option (GVal)) (riCopyValues : (List GVal) → Option ((List GVal))) (a : List GVal) : denF { tt := tt, fs := [iCopyRowFS, { fid := 189, ps := [⟨true, .base .val⟩], rs := [⟨true, .base .val⟩], ex := true, fn := fun x => riCopyValue x }, { fid := 215, ps := [⟨false, .list (.base .val)⟩], rs := [⟨false, .list (.base .val)⟩], ex := true, fn := fun x => riCopyValues x }] } [(3, { n := 20, its := [.t 3 (.own (.base .val) true true 0), .t 7 (.ro (.list (.base .val))), .t 8 (.ro (.base .int)), .t 9 (.ro (.base .int))], boxes := [], ptrs := [] })] Try.f215 iCopyValuesFS.ps iCopyValuesFS.rs iCopyValuesFS.ex a = iCopyValuesB riCopyValue riCopyValues a := by kernel_rfl
theorem iCopyValueG_sound : ∀ n, Sound Try.prog (iCopyValueFSN n) ∧ Sound Try.prog (iCopyValuesFSN n)
  | 0 => ⟨(fun w S args x y h => by cases h), (fun w S args x y h => by cases h)⟩
  | n + 1 => by
    have ih := iCopyValueG_sound n
    exact ⟨sound_of_den (s := iCopyValueFSN (n + 1)) (E := { tt := tt, fs := [iCopyRowFS, iCopyValueFSN n, iCopyValuesFSN n] }) (.cons iCopyRow_callable iCopyRow_sound (.cons iCopyValue_callable ih.1 (.cons iCopyValues_callable ih.2 (.nil tt_ok)))) mixed_ok [(6, { n := 33, its := [.b 2 0 (.ro (.base .int)), .b 2 1 (.ro (.base .int)), .b 2 2 (.ro (.base .int)), .b 2 3 (.ro (.base .str)), .b 2 4 (.own (.base .val) true true 0), .b 2 5 (.own (.base .str) true true 4), .b 2 6 (.own (.base .row) true true 6), .b 3 0 (.ro (.base .int)), .b 3 1 (.ro (.base .int)), .b 3 2 (.ro (.base .int)), .b 3 3 (.ro (.base .str)), .b 3 4 (.own (.base .val) true true 7), .b 3 5 (.own (.base .str) true true 8), .b 3 6 (.own (.base .row) true true 10), .t 18 (.ro (.list (.base .row))), .t 19 (.ro (.base .int)), .t 20 (.ro (.base .int))], boxes := [(2, 7), (3, 7)], ptrs := [(2, 2, 0), (3, 3, 0)] })] (fn := Try.f189) (by kernel_rfl) fun x => iCopyValue_den _ _ x, sound_of_den (s := iCopyValuesFSN (n + 1)) (E := { tt := tt, fs := [iCopyRowFS, iCopyValueFSN n, iCopyValuesFSN n] }) (.cons iCopyRow_callable iCopyRow_sound (.cons iCopyValue_callable ih.1 (.cons iCopyValues_callable ih.2 (.nil tt_ok)))) mixed_ok [(3, { n := 20, its := [.t 3 (.own (.base .val) true true 0), .t 7 (.ro (.list (.base .val))), .t 8 (.ro (.base .int)), .t 9 (.ro (.base .int))], boxes := [], ptrs := [] })] (fn := Try.f215) (by kernel_rfl) fun x => iCopyValues_den _ _ x⟩
theorem iCopyValue_sound : Sound Try.prog iCopyValueFS := fun w S args x y h => (iCopyValueG_sound (siz (α := GVal) x + 1)).1 w S args x y h
theorem iCopyValues_sound : Sound Try.prog iCopyValuesFS := fun w S args x y h => (iCopyValueG_sound (siz (α := List GVal) x + 1)).2 w S args x y h
theorem iCopyReads_callable : callable Try.prog 157 = true := by kernel_rfl
theorem iCopyReads_den (a : List GRead) : denF { tt := tt, fs := [iCopyValueFS] } [(3, { n := 23, its := [.t 3 (.own (.base .read) true true 0), .t 7 (.ro (.list (.base .read))), .t 8 (.ro (.base .int)), .t 9 (.ro (.base .int))], boxes := [], ptrs := [] })] Try.f157 iCopyReadsFS.ps iCopyReadsFS.rs iCopyReadsFS.ex a = iCopyReads a := by kernel_rfl
theorem iCopyReads_sound : Sound Try.prog iCopyReadsFS :=
  sound_of_den (E := { tt := tt, fs := [iCopyValueFS] }) (.cons iCopyValue_callable iCopyValue_sound (.nil tt_ok)) mixed_ok [(3, { n := 23, its := [.t 3 (.own (.base .read) true true 0), .t 7 (.ro (.list (.base .read))), .t 8 (.ro (.base .int)), .t 9 (.ro (.base .int))], boxes := [], ptrs := [] })] (fn := Try.f157) (by kernel_rfl) fun x => iCopyReads_den x
theorem iCopyOp_callable : callable Try.prog 103 = true := by kernel_rfl
theorem iCopyOp_den (a : GOp) : denF { tt := tt, fs := [iCopyReadsFS] } [] Try.f103 iCopyOpFS.ps iCopyOpFS.rs iCopyOpFS.ex a = iCopyOp a := by kernel_rfl
theorem iCopyOp_sound : Sound Try.prog iCopyOpFS :=
  sound_of_den (E := { tt := tt, fs := [iCopyReadsFS] }) (.cons iCopyReads_callable iCopyReads_sound (.nil tt_ok)) mixed_ok [] (fn := Try.f103) (by kernel_rfl) fun x => iCopyOp_den x
theorem iMissingOps_callable : callable Try.prog 40 = true := by kernel_rfl
theorem iMissingOps_den (a : GReplica) (b : List Int) : denF { tt := tt, fs := [iCountByFS, iCopyOpFS] } [(3, { n := 52, its := [.t 1 (.ro (.list (.base .int))), .b 2 0 (.ro (.base .int)), .b 2 1 (.ro (.list (.base .op))), .t 5 (.own (.base .op) true true 0), .t 11 (.ro (.list (.base .op))), .t 12 (.ro (.base .int)), .t 13 (.ro (.base .int))], boxes := [(2, 2)], ptrs := [(2, 2, 0)] })] Try.f40 iMissingOpsFS.ps iMissingOpsFS.rs iMissingOpsFS.ex (a, b) = iMissingOps a b := by kernel_rfl
theorem iMissingOps_sound : Sound Try.prog iMissingOpsFS :=
  sound_of_den (E := { tt := tt, fs := [iCountByFS, iCopyOpFS] }) (.cons iCountBy_callable iCountBy_sound (.cons iCopyOp_callable iCopyOp_sound (.nil tt_ok))) mixed_ok [(3, { n := 52, its := [.t 1 (.ro (.list (.base .int))), .b 2 0 (.ro (.base .int)), .b 2 1 (.ro (.list (.base .op))), .t 5 (.own (.base .op) true true 0), .t 11 (.ro (.list (.base .op))), .t 12 (.ro (.base .int)), .t 13 (.ro (.base .int))], boxes := [(2, 2)], ptrs := [(2, 2, 0)] })] (fn := Try.f40) (by kernel_rfl) fun x => iMissingOps_den x.1 x.2
theorem eqIntS_callable : callable Try.prog 43 = true := by kernel_rfl
theorem eqIntS_den (a : List Int) (b : List Int) : denF { tt := tt, fs := [] } [(4, { n := 26, its := [.t 0 (.ro (.list (.base .int))), .t 1 (.ro (.list (.base .int))), .t 5 (.ro (.base .int))], boxes := [], ptrs := [] })] Try.f43 eqIntSFS.ps eqIntSFS.rs eqIntSFS.ex (a, b) = eqIntS a b := by kernel_rfl
theorem eqIntS_sound : Sound Try.prog eqIntSFS :=
  sound_of_den (E := { tt := tt, fs := [] }) (.nil tt_ok) mixed_ok [(4, { n := 26, its := [.t 0 (.ro (.list (.base .int))), .t 1 (.ro (.list (.base .int))), .t 5 (.ro (.base .int))], boxes := [], ptrs := [] })] (fn := Try.f43) (by kernel_rfl) fun x => eqIntS_den x.1 x.2
theorem eqStringS_callable : callable Try.prog 227 = true := by kernel_rfl
theorem eqStringS_den (a : List Str) (b : List Str) : denF { tt := tt, fs := [] } [(4, { n := 26, its := [.t 0 (.ro (.list (.base .str))), .t 1 (.ro (.list (.base .str))), .t 5 (.ro (.base .int))], boxes := [], ptrs := [] })] Try.f227 eqStringSFS.ps eqStringSFS.rs eqStringSFS.ex (a, b) = eqStringS a b := by kernel_rfl
theorem eqStringS_sound : Sound Try.prog eqStringSFS :=
  sound_of_den (E := { tt := tt, fs := [] }) (.nil tt_ok) mixed_ok [(4, { n := 26, its := [.t 0 (.ro (.list (.base .str))), .t 1 (.ro (.list (.base .str))), .t 5 (.ro (.base .int))], boxes := [], ptrs := [] })] (fn := Try.f227) (by kernel_rfl) fun x => eqStringS_den x.1 x.2
theorem eqOrigin_callable : callable Try.prog 244 = true := by kernel_rfl
theorem eqOrigin_den (a : GOrigin) (b : GOrigin) : denF { tt := tt, fs := [] } [] Try.f244 eqOriginFS.ps eqOriginFS.rs eqOriginFS.ex (a, b) = eqOrigin a b := by kernel_rfl
theorem eqOrigin_sound : Sound Try.prog eqOriginFS :=
  sound_of_den (E := { tt := tt, fs := [] }) (.nil tt_ok) mixed_ok [] (fn := Try.f244) (by kernel_rfl) fun x => eqOrigin_den x.1 x.2
theorem eqOriginS_callable : callable Try.prog 242 = true := by kernel_rfl
theorem eqOriginS_den (a : List GOrigin) (b : List GOrigin) : denF { tt := tt, fs := [eqOriginFS] } [(4, { n := 27, its := [.t 0 (.ro (.list (.base .origin))), .t 1 (.ro (.list (.base .origin))), .t 5 (.ro (.base .int))], boxes := [], ptrs := [] })] Try.f242 eqOriginSFS.ps eqOriginSFS.rs eqOriginSFS.ex (a, b) = eqOriginS a b := by kernel_rfl
theorem eqOriginS_sound : Sound Try.prog eqOriginSFS :=
  sound_of_den (E := { tt := tt, fs := [eqOriginFS] }) (.cons eqOrigin_callable eqOrigin_sound (.nil tt_ok)) mixed_ok [(4, { n := 27, its := [.t 0 (.ro (.list (.base .origin))), .t 1 (.ro (.list (.base .origin))), .t 5 (.ro (.base .int))], boxes := [], ptrs := [] })] (fn := Try.f242) (by kernel_rfl) fun x => eqOriginS_den x.1 x.2
theorem eqRow_callable : callable Try.prog 237 = true := by kernel_rfl
theorem eqRow_den (a : GRow) (b : GRow) : denF { tt := tt, fs := [eqIntSFS, eqOriginSFS] } [] Try.f237 eqRowFS.ps eqRowFS.rs eqRowFS.ex (a, b) = eqRow a b := by kernel_rfl
theorem eqRow_sound : Sound Try.prog eqRowFS :=
  sound_of_den (E := { tt := tt, fs := [eqIntSFS, eqOriginSFS] }) (.cons eqIntS_callable eqIntS_sound (.cons eqOriginS_callable eqOriginS_sound (.nil tt_ok))) mixed_ok [] (fn := Try.f237) (by kernel_rfl) fun x => eqRow_den x.1 x.2
theorem eqRowS_callable : callable Try.prog 228 = true := by kernel_rfl
theorem eqRowS_den (a : List GRow) (b : List GRow) : denF { tt := tt, fs := [eqRowFS] } [(4, { n := 27, its := [.t 0 (.ro (.list (.base .row))), .t 1 (.ro (.list (.base .row))), .t 5 (.ro (.base .int))], boxes := [], ptrs := [] })] Try.f228 eqRowSFS.ps eqRowSFS.rs eqRowSFS.ex (a, b) = eqRowS a b := by kernel_rfl
theorem eqRowS_sound : Sound Try.prog eqRowSFS :=
  sound_of_den (E := { tt := tt, fs := [eqRowFS] }) (.cons eqRow_callable eqRow_sound (.nil tt_ok)) mixed_ok [(4, { n := 27, its := [.t 0 (.ro (.list (.base .row))), .t 1 (.ro (.list (.base .row))), .t 5 (.ro (.base .int))], boxes := [], ptrs := [] })] (fn := Try.f228) (by kernel_rfl) fun x => eqRowS_den x.1 x.2
theorem eqValue_callable : callable Try.prog 198 = true := by kernel_rfl
theorem eqValueS_callable : callable Try.prog 226 = true := by kernel_rfl
theorem eqValue_den (reqValue : GVal → GVal → Option (Bool)) (reqValueS : (List GVal) → (List GVal) → Option (Bool)) (a : GVal) (b : GVal) : denF { tt := tt, fs := [eqStringSFS, eqRowSFS, { fid := 198, ps := [⟨true, .base .val⟩, ⟨true, .base .val⟩], rs := [⟨false, .base .bool⟩], ex := true, fn := fun x => reqValue x.1 x.2 }, { fid := 226, ps := [⟨false, .list (.base .val)⟩, ⟨false, .list (.base .val)⟩], rs := [⟨false, .base .bool⟩], ex := true, fn := fun x => reqValueS x.1 x.2 }] } [] Try.f198 eqValueFS.ps eqValueFS.rs eqValueFS.ex (a, b) = eqValueB reqValue reqValueS a b := by kernel_rfl
theorem eqValueS_den (reqValue : GVal → GVal → Option (Bool)) (reqValueS : (List GVal) → (List GVal) → Option (Bool)) (a : List GVal) (b : List GVal) : denF { tt := tt, fs := [eqStringSFS, eqRowSFS, { fid := 198, ps := [⟨true, .base .val⟩, ⟨true, .base .val⟩], rs := [⟨false, .base .bool⟩], ex := true, fn := fun x => reqValue x.1 x.2 }, { fid := 226, ps := [⟨false, .list (.base .val)⟩, ⟨false, .list (.base .val)⟩], rs := [⟨false, .base .bool⟩], ex := true, fn := fun x => reqValueS x.1 x.2 }] } [(4, { n := 27, its := [.t 0 (.ro (.list (.base .val))), .t 1 (.ro (.list (.base .val))), .t 5 (.ro (.base .int))], boxes := [], ptrs := [] })] Try.f226 eqValueSFS.ps eqValueSFS.rs eqValueSFS.ex (a, b) = eqValueSB reqValue reqValueS a b := by kernel_rfl
theorem eqValueG_sound : ∀ n, Sound Try.prog (eqValueFSN n) ∧ Sound Try.prog (eqValueSFSN n)
  | 0 => ⟨(fun w S args x y h => by cases h), (fun w S args x y h => by cases h)⟩
  | n + 1 => by
    have ih := eqValueG_sound n
    exact ⟨sound_of_den (s := eqValueFSN (n + 1)) (E := { tt := tt, fs := [eqStringSFS, eqRowSFS, eqValueFSN n, eqValueSFSN n] }) (.cons eqStringS_callable eqStringS_sound (.cons eqRowS_callable eqRowS_sound (.cons eqValue_callable ih.1 (.cons eqValueS_callable ih.2 (.nil tt_ok))))) mixed_ok [] (fn := Try.f198) (by kernel_rfl) fun x => eqValue_den _ _ x.1 x.2, sound_of_den (s := eqValueSFSN (n + 1)) (E := { tt := tt, fs := [eqStringSFS, eqRowSFS, eqValueFSN n, eqValueSFSN n] }) (.cons eqStringS_callable eqStringS_sound (.cons eqRowS_callable eqRowS_sound (.cons eqValue_callable ih.1 (.cons eqValueS_callable ih.2 (.nil tt_ok))))) mixed_ok [(4, { n := 27, its := [.t 0 (.ro (.list (.base .val))), .t 1 (.ro (.list (.base .val))), .t 5 (.ro (.base .int))], boxes := [], ptrs := [] })] (fn := Try.f226) (by kernel_rfl) fun x => eqValueS_den _ _ x.1 x.2⟩
theorem eqValue_sound : Sound Try.prog eqValueFS := fun w S args x y h => (eqValueG_sound (siz (α := GVal) x.1 + siz (α := GVal) x.2 + 1)).1 w S args x y h
theorem eqValueS_sound : Sound Try.prog eqValueSFS := fun w S args x y h => (eqValueG_sound (siz (α := List GVal) x.1 + siz (α := List GVal) x.2 + 1)).2 w S args x y h
theorem eqRead_callable : callable Try.prog 177 = true := by kernel_rfl
theorem eqRead_den (a : GRead) (b : GRead) : denF { tt := tt, fs := [eqValueFS] } [] Try.f177 eqReadFS.ps eqReadFS.rs eqReadFS.ex (a, b) = eqRead a b := by kernel_rfl
theorem eqRead_sound : Sound Try.prog eqReadFS :=
  sound_of_den (E := { tt := tt, fs := [eqValueFS] }) (.cons eqValue_callable eqValue_sound (.nil tt_ok)) mixed_ok [] (fn := Try.f177) (by kernel_rfl) fun x => eqRead_den x.1 x.2
theorem eqReadS_callable : callable Try.prog 132 = true := by kernel_rfl
theorem eqReadS_den (a : List GRead) (b : List GRead) : denF { tt := tt, fs := [eqReadFS] } [(4, { n := 27, its := [.t 0 (.ro (.list (.base .read))), .t 1 (.ro (.list (.base .read))), .t 5 (.ro (.base .int))], boxes := [], ptrs := [] })] Try.f132 eqReadSFS.ps eqReadSFS.rs eqReadSFS.ex (a, b) = eqReadS a b := by kernel_rfl
theorem eqReadS_sound : Sound Try.prog eqReadSFS :=
  sound_of_den (E := { tt := tt, fs := [eqReadFS] }) (.cons eqRead_callable eqRead_sound (.nil tt_ok)) mixed_ok [(4, { n := 27, its := [.t 0 (.ro (.list (.base .read))), .t 1 (.ro (.list (.base .read))), .t 5 (.ro (.base .int))], boxes := [], ptrs := [] })] (fn := Try.f132) (by kernel_rfl) fun x => eqReadS_den x.1 x.2
theorem eqOp_callable : callable Try.prog 59 = true := by kernel_rfl
theorem eqOp_den (a : GOp) (b : GOp) : denF { tt := tt, fs := [eqIntSFS, eqEditFS, eqReadSFS] } [] Try.f59 eqOpFS.ps eqOpFS.rs eqOpFS.ex (a, b) = eqOp a b := by kernel_rfl
theorem eqOp_sound : Sound Try.prog eqOpFS :=
  sound_of_den (E := { tt := tt, fs := [eqIntSFS, eqEditFS, eqReadSFS] }) (.cons eqIntS_callable eqIntS_sound (.cons eqEdit_callable eqEdit_sound (.cons eqReadS_callable eqReadS_sound (.nil tt_ok)))) mixed_ok [] (fn := Try.f59) (by kernel_rfl) fun x => eqOp_den x.1 x.2
theorem eqOpS_callable : callable Try.prog 41 = true := by kernel_rfl
theorem eqOpS_den (a : List GOp) (b : List GOp) : denF { tt := tt, fs := [eqOpFS] } [(4, { n := 27, its := [.t 0 (.ro (.list (.base .op))), .t 1 (.ro (.list (.base .op))), .t 5 (.ro (.base .int))], boxes := [], ptrs := [] })] Try.f41 eqOpSFS.ps eqOpSFS.rs eqOpSFS.ex (a, b) = eqOpS a b := by kernel_rfl
theorem eqOpS_sound : Sound Try.prog eqOpSFS :=
  sound_of_den (E := { tt := tt, fs := [eqOpFS] }) (.cons eqOp_callable eqOp_sound (.nil tt_ok)) mixed_ok [(4, { n := 27, its := [.t 0 (.ro (.list (.base .op))), .t 1 (.ro (.list (.base .op))), .t 5 (.ro (.base .int))], boxes := [], ptrs := [] })] (fn := Try.f41) (by kernel_rfl) fun x => eqOpS_den x.1 x.2
theorem eqReplica_callable : callable Try.prog 42 = true := by kernel_rfl
theorem eqReplica_den (a : GReplica) (b : GReplica) : denF { tt := tt, fs := [eqOpSFS] } [] Try.f42 eqReplicaFS.ps eqReplicaFS.rs eqReplicaFS.ex (a, b) = eqReplica a b := by kernel_rfl
theorem eqReplica_sound : Sound Try.prog eqReplicaFS :=
  sound_of_den (E := { tt := tt, fs := [eqOpSFS] }) (.cons eqOpS_callable eqOpS_sound (.nil tt_ok)) mixed_ok [] (fn := Try.f42) (by kernel_rfl) fun x => eqReplica_den x.1 x.2
theorem markIntS_callable : callable Try.prog 45 = true := by kernel_rfl
theorem markIntS_den (a : List Int) (b : Int) : denMF { tt := tt, fs := [] } [(2, { n := 19, ty := .base .int, si := 5, sk := 1 })] Try.f45 markIntSMS.sh a b = markIntS a b := by kernel_rfl
theorem markIntS_msound : MSound Try.prog markIntSMS :=
  msound_of_den (E := { tt := tt, fs := [] }) (.nil tt_ok) [(2, { n := 19, ty := .base .int, si := 5, sk := 1 })] (fn := Try.f45) (by kernel_rfl) fun x n => markIntS_den x n
end Go.Proofs.Ytmfhbmfadapdbaa
