/- The functions compute their models, by gen.py. -/
import Derived.Test.YtmfhbmfadapdbaaDen5
namespace Go.Proofs.Ytmfhbmfadapdbaa
open Go.Abs Go.Proofs
set_option maxRecDepth 100000
theorem iIsValidReplica_callable : callable Try.prog 129 = true := by kernel_rfl
theorem iIsValidReplica_den (a : GReplica) : denF { tt := tt, fs := [iWithinFS, iIsValidLogFS] } [] Try.f129 iIsValidReplicaFS.ps iIsValidReplicaFS.rs iIsValidReplicaFS.ex a = iIsValidReplica a := by kernel_rfl
theorem iIsValidReplica_sound : Sound Try.prog iIsValidReplicaFS :=
  sound_of_den (E := { tt := tt, fs := [iWithinFS, iIsValidLogFS] }) (.cons iWithin_callable iWithin_sound (.cons iIsValidLog_callable iIsValidLog_sound (.nil tt_ok))) mixed_ok [] (fn := Try.f129) (by kernel_rfl) fun x => iIsValidReplica_den x
theorem iLastTime_callable : callable Try.prog 130 = true := by kernel_rfl
theorem iLastTime_den (a : List GOp) : denF { tt := tt, fs := [] } [(3, { n := 18, its := [.t 3 (.ro (.base .int)), .t 6 (.ro (.list (.base .op))), .t 7 (.ro (.base .int)), .t 8 (.ro (.base .int))], boxes := [], ptrs := [] })] Try.f130 iLastTimeFS.ps iLastTimeFS.rs iLastTimeFS.ex a = iLastTime a := by kernel_rfl
theorem iLastTime_sound : Sound Try.prog iLastTimeFS :=
  sound_of_den (E := { tt := tt, fs := [] }) (.nil tt_ok) mixed_ok [(3, { n := 18, its := [.t 3 (.ro (.base .int)), .t 6 (.ro (.list (.base .op))), .t 7 (.ro (.base .int)), .t 8 (.ro (.base .int))], boxes := [], ptrs := [] })] (fn := Try.f130) (by kernel_rfl) fun x => iLastTime_den x
theorem iSeenBy_callable : callable Try.prog 131 = true := by kernel_rfl
theorem iSeenBy_den (a : GReplica) : denF { tt := tt, fs := [iCountByFS] } [(3, { n := 18, its := [.b 1 0 (.ro (.base .int)), .b 1 1 (.ro (.list (.base .op))), .t 3 (.own (.base .int) true true 0), .t 4 (.ro (.base .int))], boxes := [(1, 2)], ptrs := [(1, 1, 0)] })] Try.f131 iSeenByFS.ps iSeenByFS.rs iSeenByFS.ex a = iSeenBy a := by kernel_rfl
theorem iSeenBy_sound : Sound Try.prog iSeenByFS :=
  sound_of_den (E := { tt := tt, fs := [iCountByFS] }) (.cons iCountBy_callable iCountBy_sound (.nil tt_ok)) mixed_ok [(3, { n := 18, its := [.b 1 0 (.ro (.base .int)), .b 1 1 (.ro (.list (.base .op))), .t 3 (.own (.base .int) true true 0), .t 4 (.ro (.base .int))], boxes := [(1, 2)], ptrs := [(1, 1, 0)] })] (fn := Try.f131) (by kernel_rfl) fun x => iSeenBy_den x
theorem iAddOp_callable : callable Try.prog 58 = true := by kernel_rfl
theorem iAddOp_den (a : GReplica) (b : GOp) : denF { tt := tt, fs := [iCopyOpFS, iCopyReplicaFS, iIsValidReplicaFS, iLastTimeFS, iSeenByFS] } [] Try.f58 iAddOpFS.ps iAddOpFS.rs iAddOpFS.ex (a, b) = iAddOp a b := by kernel_rfl
theorem iAddOp_sound : Sound Try.prog iAddOpFS :=
  sound_of_den (E := { tt := tt, fs := [iCopyOpFS, iCopyReplicaFS, iIsValidReplicaFS, iLastTimeFS, iSeenByFS] }) (.cons iCopyOp_callable iCopyOp_sound (.cons iCopyReplica_callable iCopyReplica_sound (.cons iIsValidReplica_callable iIsValidReplica_sound (.cons iLastTime_callable iLastTime_sound (.cons iSeenBy_callable iSeenBy_sound (.nil tt_ok)))))) mixed_ok [] (fn := Try.f58) (by kernel_rfl) fun x => iAddOp_den x.1 x.2
theorem markOp_callable : callable Try.prog 60 = true := by kernel_rfl
theorem markOp_den (a : GOp) (b : Int) : denMF { tt := tt, fs := [], ms := [markIntSMS, markReadSMS] } [] Try.f60 markOpMS.sh a b = markOp a b := by kernel_rfl
theorem markOp_msound : MSound Try.prog markOpMS :=
  msound_of_den (E := { tt := tt, fs := [], ms := [markIntSMS, markReadSMS] }) (.consM markIntS_callable markIntS_msound (.consM markReadS_callable markReadS_msound (.nil tt_ok))) [] (fn := Try.f60) (by kernel_rfl) fun x n => markOp_den x n
theorem heldReplica_callable : callable Try.prog 61 = true := by kernel_rfl
theorem heldReplica_den (a : GReplica) (b : Int) : denF { tt := tt, fs := [heldOpSFS] } [] Try.f61 heldReplicaFS.ps heldReplicaFS.rs heldReplicaFS.ex (a, b) = heldReplica a b := by kernel_rfl
theorem heldReplica_sound : Sound Try.prog heldReplicaFS :=
  sound_of_den (E := { tt := tt, fs := [heldOpSFS] }) (.cons heldOpS_callable heldOpS_sound (.nil tt_ok)) mixed_ok [] (fn := Try.f61) (by kernel_rfl) fun x => heldReplica_den x.1 x.2
theorem FnExactAddOp_callable : callable Try.prog 10 = true := by kernel_rfl
theorem FnExactAddOp_den (a : GReplica) (b : GOp) : denF { tt := tt, fs := [szReplicaFS, toReplicaFS, eqReplicaFS, szOpFS, sAddOpFS, toOpFS, iAddOpFS, eqOpFS, heldReplicaFS], ms := [markReplicaMS, markOpMS], trees := true } [] Try.f10 FnExactAddOpFS.ps FnExactAddOpFS.rs FnExactAddOpFS.ex (a, b) = FnExactAddOp a b := by kernel_rfl
theorem FnExactAddOp_sound : Sound Try.prog FnExactAddOpFS :=
  sound_of_den (E := { tt := tt, fs := [szReplicaFS, toReplicaFS, eqReplicaFS, szOpFS, sAddOpFS, toOpFS, iAddOpFS, eqOpFS, heldReplicaFS], ms := [markReplicaMS, markOpMS], trees := true }) (.cons szReplica_callable szReplica_sound (.cons toReplica_callable toReplica_sound (.cons eqReplica_callable eqReplica_sound (.cons szOp_callable szOp_sound (.cons sAddOp_callable sAddOp_sound (.cons toOp_callable toOp_sound (.cons iAddOp_callable iAddOp_sound (.cons eqOp_callable eqOp_sound (.cons heldReplica_callable heldReplica_sound (.consM markReplica_callable markReplica_msound (.consM markOp_callable markOp_msound (.nil tt_ok)))))))))))) mixed_ok [] (fn := Try.f10) (by kernel_rfl) fun x => FnExactAddOp_den x.1 x.2
end Go.Proofs.Ytmfhbmfadapdbaa
