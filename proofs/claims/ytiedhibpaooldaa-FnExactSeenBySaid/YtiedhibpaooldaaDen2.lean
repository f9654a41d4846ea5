/- The functions compute their models, by gen.py. -/
import Derived.Test.YtiedhibpaooldaaDen1
namespace Go.Proofs.Ytiedhibpaooldaa
open Go.Abs Go.Proofs
set_option maxRecDepth 100000
theorem toValueS_callable : callable Try.prog 176 = true := by kernel_rfl
theorem toValue_den (rtoValue : GVal → Option (GVal)) (rtoValueS : (List GVal) → Option ((List GVal))) (a : GVal) : denF { tt := tt, fs := [toStringSFS, toRowSFS, { fid := 155, ps := [⟨true, .base .val⟩], rs := [⟨true, .base .val⟩], ex := true, fn := fun x => rtoValue x }, { fid := 176, ps := [⟨false, .list (.base .val)⟩], rs := [⟨false, .list (.base .val)⟩], ex := true, fn := fun x => rtoValueS x }] } [] Try.f155 toValueFS.ps toValueFS.rs toValueFS.ex a = toValueB rtoValue rtoValueS a := by kernel_rfl
theorem toValueS_den (rtoValue : GVal → Option (GVal)) (rtoValueS : (List GVal) → Option ((List GVal))) (a : List GVal) : denF { tt := tt, fs := [toStringSFS, toRowSFS, { fid := 155, ps := [⟨true, .base .val⟩], rs := [⟨true, .base .val⟩], ex := true, fn := fun x => rtoValue x }, { fid := 176, ps := [⟨false, .list (.base .val)⟩], rs := [⟨false, .list (.base .val)⟩], ex := true, fn := fun x => rtoValueS x }] } [(3, { n := 23, its := [.t 0 (.ro (.list (.base .val))), .t 3 (.own (.base .val) true true 0), .t 4 (.ro (.base .int))], boxes := [], ptrs := [] })] Try.f176 toValueSFS.ps toValueSFS.rs toValueSFS.ex a = toValueSB rtoValue rtoValueS a := by kernel_rfl
theorem toValueG_sound : ∀ n, Sound Try.prog (toValueFSN n) ∧ Sound Try.prog (toValueSFSN n)
  | 0 => ⟨(fun w S args x y h => by cases h), (fun w S args x y h => by cases h)⟩
  | n + 1 => by
    have ih := toValueG_sound n
    exact ⟨sound_of_den (s := toValueFSN (n + 1)) (E := { tt := tt, fs := [toStringSFS, toRowSFS, toValueFSN n, toValueSFSN n] }) (.cons toStringS_callable toStringS_sound (.cons toRowS_callable toRowS_sound (.cons toValue_callable ih.1 (.cons toValueS_callable ih.2 (.nil tt_ok))))) mixed_ok [] (fn := Try.f155) (by kernel_rfl) fun x => toValue_den _ _ x, sound_of_den (s := toValueSFSN (n + 1)) (E := { tt := tt, fs := [toStringSFS, toRowSFS, toValueFSN n, toValueSFSN n] }) (.cons toStringS_callable toStringS_sound (.cons toRowS_callable toRowS_sound (.cons toValue_callable ih.1 (.cons toValueS_callable ih.2 (.nil tt_ok))))) mixed_ok [(3, { n := 23, its := [.t 0 (.ro (.list (.base .val))), .t 3 (.own (.base .val) true true 0), .t 4 (.ro (.base .int))], boxes := [], ptrs := [] })] (fn := Try.f176) (by kernel_rfl) fun x => toValueS_den _ _ x⟩
theorem toValue_sound : Sound Try.prog toValueFS := fun w S args x y h => (toValueG_sound (siz (α := GVal) x + 1)).1 w S args x y h
theorem toValueS_sound : Sound Try.prog toValueSFS := fun w S args x y h => (toValueG_sound (siz (α := List GVal) x + 1)).2 w S args x y h
theorem toRead_callable : callable Try.prog 131 = true := by kernel_rfl
theorem toRead_den (a : GRead) : denF { tt := tt, fs := [toValueFS] } [] Try.f131 toReadFS.ps toReadFS.rs toReadFS.ex a = toRead a := by kernel_rfl
theorem toRead_sound : Sound Try.prog toReadFS :=
  sound_of_den (E := { tt := tt, fs := [toValueFS] }) (.cons toValue_callable toValue_sound (.nil tt_ok)) mixed_ok [] (fn := Try.f131) (by kernel_rfl) fun x => toRead_den x
theorem toReadS_callable : callable Try.prog 93 = true := by kernel_rfl
theorem toReadS_den (a : List GRead) : denF { tt := tt, fs := [toReadFS] } [(3, { n := 23, its := [.t 0 (.ro (.list (.base .read))), .t 3 (.own (.base .read) true true 0), .t 4 (.ro (.base .int))], boxes := [], ptrs := [] })] Try.f93 toReadSFS.ps toReadSFS.rs toReadSFS.ex a = toReadS a := by kernel_rfl
theorem toReadS_sound : Sound Try.prog toReadSFS :=
  sound_of_den (E := { tt := tt, fs := [toReadFS] }) (.cons toRead_callable toRead_sound (.nil tt_ok)) mixed_ok [(3, { n := 23, its := [.t 0 (.ro (.list (.base .read))), .t 3 (.own (.base .read) true true 0), .t 4 (.ro (.base .int))], boxes := [], ptrs := [] })] (fn := Try.f93) (by kernel_rfl) fun x => toReadS_den x
theorem toOp_callable : callable Try.prog 37 = true := by kernel_rfl
theorem toOp_den (a : GOp) : denF { tt := tt, fs := [toEditFS, toIntSFS, toReadSFS] } [] Try.f37 toOpFS.ps toOpFS.rs toOpFS.ex a = toOp a := by kernel_rfl
theorem toOp_sound : Sound Try.prog toOpFS :=
  sound_of_den (E := { tt := tt, fs := [toEditFS, toIntSFS, toReadSFS] }) (.cons toEdit_callable toEdit_sound (.cons toIntS_callable toIntS_sound (.cons toReadS_callable toReadS_sound (.nil tt_ok)))) mixed_ok [] (fn := Try.f37) (by kernel_rfl) fun x => toOp_den x
theorem toOpS_callable : callable Try.prog 38 = true := by kernel_rfl
theorem toOpS_den (a : List GOp) : denF { tt := tt, fs := [toOpFS] } [(3, { n := 23, its := [.t 0 (.ro (.list (.base .op))), .t 3 (.own (.base .op) true true 0), .t 4 (.ro (.base .int))], boxes := [], ptrs := [] })] Try.f38 toOpSFS.ps toOpSFS.rs toOpSFS.ex a = toOpS a := by kernel_rfl
theorem toOpS_sound : Sound Try.prog toOpSFS :=
  sound_of_den (E := { tt := tt, fs := [toOpFS] }) (.cons toOp_callable toOp_sound (.nil tt_ok)) mixed_ok [(3, { n := 23, its := [.t 0 (.ro (.list (.base .op))), .t 3 (.own (.base .op) true true 0), .t 4 (.ro (.base .int))], boxes := [], ptrs := [] })] (fn := Try.f38) (by kernel_rfl) fun x => toOpS_den x
theorem toReplica_callable : callable Try.prog 61 = true := by kernel_rfl
theorem toReplica_den (a : GReplica) : denF { tt := tt, fs := [toOpSFS] } [] Try.f61 toReplicaFS.ps toReplicaFS.rs toReplicaFS.ex a = toReplica a := by kernel_rfl
theorem toReplica_sound : Sound Try.prog toReplicaFS :=
  sound_of_den (E := { tt := tt, fs := [toOpSFS] }) (.cons toOpS_callable toOpS_sound (.nil tt_ok)) mixed_ok [] (fn := Try.f61) (by kernel_rfl) fun x => toReplica_den x
theorem sCountBy_callable : callable Try.prog 91 = true := by kernel_rfl
theorem sCountBy_den (a : List GOp) (b : Int) : denF { tt := tt, fs := [] } [(3, { n := 23, its := [.t 0 (.ro (.list (.base .op))), .t 1 (.ro (.base .int)), .t 5 (.ro (.base .int)), .t 6 (.ro (.base .int))], boxes := [], ptrs := [] })] Try.f91 sCountByFS.ps sCountByFS.rs sCountByFS.ex (a, b) = sCountBy a b := by kernel_rfl
theorem sCountBy_sound : Sound Try.prog sCountByFS :=
  sound_of_den (E := { tt := tt, fs := [] }) (.nil tt_ok) mixed_ok [(3, { n := 23, its := [.t 0 (.ro (.list (.base .op))), .t 1 (.ro (.base .int)), .t 5 (.ro (.base .int)), .t 6 (.ro (.base .int))], boxes := [], ptrs := [] })] (fn := Try.f91) (by kernel_rfl) fun x => sCountBy_den x.1 x.2
theorem sSeenBy_callable : callable Try.prog 63 = true := by kernel_rfl
theorem sSeenBy_den (a : GReplica) : denF { tt := tt, fs := [sCountByFS] } [(3, { n := 18, its := [.b 1 0 (.ro (.base .int)), .b 1 1 (.ro (.list (.base .op))), .t 3 (.own (.base .int) true true 0), .t 4 (.ro (.base .int))], boxes := [(1, 2)], ptrs := [(1, 1, 0)] })] Try.f63 sSeenByFS.ps sSeenByFS.rs sSeenByFS.ex a = sSeenBy a := by kernel_rfl
theorem sSeenBy_sound : Sound Try.prog sSeenByFS :=
  sound_of_den (E := { tt := tt, fs := [sCountByFS] }) (.cons sCountBy_callable sCountBy_sound (.nil tt_ok)) mixed_ok [(3, { n := 18, its := [.b 1 0 (.ro (.base .int)), .b 1 1 (.ro (.list (.base .op))), .t 3 (.own (.base .int) true true 0), .t 4 (.ro (.base .int))], boxes := [(1, 2)], ptrs := [(1, 1, 0)] })] (fn := Try.f63) (by kernel_rfl) fun x => sSeenBy_den x
theorem iCountBy_callable : callable Try.prog 94 = true := by kernel_rfl
theorem iCountBy_den (a : List GOp) (b : Int) : denF { tt := tt, fs := [] } [(3, { n := 22, its := [.t 1 (.ro (.base .int)), .t 5 (.ro (.base .int)), .t 8 (.ro (.list (.base .op))), .t 9 (.ro (.base .int)), .t 10 (.ro (.base .int))], boxes := [], ptrs := [] })] Try.f94 iCountByFS.ps iCountByFS.rs iCountByFS.ex (a, b) = iCountBy a b := by kernel_rfl
theorem iCountBy_sound : Sound Try.prog iCountByFS :=
  sound_of_den (E := { tt := tt, fs := [] }) (.nil tt_ok) mixed_ok [(3, { n := 22, its := [.t 1 (.ro (.base .int)), .t 5 (.ro (.base .int)), .t 8 (.ro (.list (.base .op))), .t 9 (.ro (.base .int)), .t 10 (.ro (.base .int))], boxes := [], ptrs := [] })] (fn := Try.f94) (by kernel_rfl) fun x => iCountBy_den x.1 x.2
theorem iSeenBy_callable : callable Try.prog 64 = true := by kernel_rfl
theorem iSeenBy_den (a : GReplica) : denF { tt := tt, fs := [iCountByFS] } [(3, { n := 18, its := [.b 1 0 (.ro (.base .int)), .b 1 1 (.ro (.list (.base .op))), .t 3 (.own (.base .int) true true 0), .t 4 (.ro (.base .int))], boxes := [(1, 2)], ptrs := [(1, 1, 0)] })] Try.f64 iSeenByFS.ps iSeenByFS.rs iSeenByFS.ex a = iSeenBy a := by kernel_rfl
theorem iSeenBy_sound : Sound Try.prog iSeenByFS :=
  sound_of_den (E := { tt := tt, fs := [iCountByFS] }) (.cons iCountBy_callable iCountBy_sound (.nil tt_ok)) mixed_ok [(3, { n := 18, its := [.b 1 0 (.ro (.base .int)), .b 1 1 (.ro (.list (.base .op))), .t 3 (.own (.base .int) true true 0), .t 4 (.ro (.base .int))], boxes := [(1, 2)], ptrs := [(1, 1, 0)] })] (fn := Try.f64) (by kernel_rfl) fun x => iSeenBy_den x
theorem FnExactSeenBy_callable : callable Try.prog 13 = true := by kernel_rfl
theorem FnExactSeenBy_den (a : GReplica) : denF { tt := tt, fs := [eqIntSFS, heldIntSFS, eqReplicaFS, szReplicaFS, toReplicaFS, sSeenByFS, iSeenByFS], ms := [markIntSMS, markReplicaMS], trees := true } [] Try.f13 FnExactSeenByFS.ps FnExactSeenByFS.rs FnExactSeenByFS.ex a = FnExactSeenBy a := by kernel_rfl
theorem FnExactSeenBy_sound : Sound Try.prog FnExactSeenByFS :=
  sound_of_den (E := { tt := tt, fs := [eqIntSFS, heldIntSFS, eqReplicaFS, szReplicaFS, toReplicaFS, sSeenByFS, iSeenByFS], ms := [markIntSMS, markReplicaMS], trees := true }) (.cons eqIntS_callable eqIntS_sound (.cons heldIntS_callable heldIntS_sound (.cons eqReplica_callable eqReplica_sound (.cons szReplica_callable szReplica_sound (.cons toReplica_callable toReplica_sound (.cons sSeenBy_callable sSeenBy_sound (.cons iSeenBy_callable iSeenBy_sound (.consM markIntS_callable markIntS_msound (.consM markReplica_callable markReplica_msound (.nil tt_ok)))))))))) mixed_ok [] (fn := Try.f13) (by kernel_rfl) fun x => FnExactSeenBy_den x
end Go.Proofs.Ytiedhibpaooldaa
