/- The functions compute their models, by gen.py. -/
import Derived.Test.YtiedhibpaooldaaDen4
namespace Go.Proofs.Ytiedhibpaooldaa
open Go.Abs Go.Proofs
set_option maxRecDepth 100000
theorem FnExactSeenBy_callable : callable Try.prog 13 = true := by kernel_rfl
theorem FnExactSeenBy_den (a : GReplica) : denF { tt := tt, fs := [eqIntSFS, heldIntSFS, eqReplicaFS, szReplicaFS, toReplicaFS, sSeenByFS, iSeenByFS], ms := [markIntSMS, markReplicaMS], trees := true } [] Try.f13 FnExactSeenByFS.ps FnExactSeenByFS.rs FnExactSeenByFS.ex a = FnExactSeenBy a := by kernel_rfl
theorem FnExactSeenBy_sound : Sound Try.prog FnExactSeenByFS :=
  sound_of_den (E := { tt := tt, fs := [eqIntSFS, heldIntSFS, eqReplicaFS, szReplicaFS, toReplicaFS, sSeenByFS, iSeenByFS], ms := [markIntSMS, markReplicaMS], trees := true }) (.cons eqIntS_callable eqIntS_sound (.cons heldIntS_callable heldIntS_sound (.cons eqReplica_callable eqReplica_sound (.cons szReplica_callable szReplica_sound (.cons toReplica_callable toReplica_sound (.cons sSeenBy_callable sSeenBy_sound (.cons iSeenBy_callable iSeenBy_sound (.consM markIntS_callable markIntS_msound (.consM markReplica_callable markReplica_msound (.nil tt_ok)))))))))) mixed_ok [] (fn := Try.f13) (by kernel_rfl) fun x => FnExactSeenBy_den x
end Go.Proofs.Ytiedhibpaooldaa
