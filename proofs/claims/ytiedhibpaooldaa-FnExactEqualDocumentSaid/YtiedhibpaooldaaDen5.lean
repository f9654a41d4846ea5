/- The functions compute their models, by gen.py. -/
import Derived.Test.YtiedhibpaooldaaDen4
namespace Go.Proofs.Ytiedhibpaooldaa
open Go.Abs Go.Proofs
set_option maxRecDepth 100000
theorem iSameOrigin_callable : callable Try.prog 187 = true := by kernel_rfl
theorem iSameOrigin_den (a : List GOrigin) (b : List GOrigin) : denF { tt := tt, fs := [] } [(4, { n := 26, its := [.t 0 (.ro (.list (.base .origin))), .t 1 (.ro (.list (.base .origin))), .t 12 (.ro (.base .int)), .t 13 (.ro (.base .int))], boxes := [], ptrs := [] })] Try.f187 iSameOriginFS.ps iSameOriginFS.rs iSameOriginFS.ex (a, b) = iSameOrigin a b := by kernel_rfl
theorem iSameOrigin_sound : Sound Try.prog iSameOriginFS :=
  sound_of_den (E := { tt := tt, fs := [] }) (.nil tt_ok) mixed_ok [(4, { n := 26, its := [.t 0 (.ro (.list (.base .origin))), .t 1 (.ro (.list (.base .origin))), .t 12 (.ro (.base .int)), .t 13 (.ro (.base .int))], boxes := [], ptrs := [] })] (fn := Try.f187) (by kernel_rfl) fun x => iSameOrigin_den x.1 x.2
theorem iEqual_callable : callable Try.prog 168 = true := by kernel_rfl
theorem iEqual_den (riEqual : GVal → GVal → Bool → Option (Bool)) (a : GVal) (b : GVal) (c : Bool) : denF { tt := tt, fs := [iSameIntFS, iSameStringFS, iSameOriginFS, { fid := 168, ps := [⟨true, .base .val⟩, ⟨true, .base .val⟩, ⟨false, .base .bool⟩], rs := [⟨false, .base .bool⟩], ex := true, fn := fun x => riEqual x.1 x.2.1 x.2.2 }] } [(10, { n := 121, its := [.t 2 (.ro (.base .bool)), .b 3 0 (.ro (.base .int)), .b 3 1 (.ro (.base .int)), .b 3 2 (.ro (.base .int)), .b 3 3 (.ro (.base .str)), .b 3 4 (.ro (.list (.base .val))), .b 3 5 (.ro (.list (.base .str))), .b 3 6 (.ro (.list (.base .row))), .b 4 0 (.ro (.base .int)), .b 4 1 (.ro (.base .int)), .b 4 2 (.ro (.base .int)), .b 4 3 (.ro (.base .str)), .b 4 4 (.ro (.list (.base .val))), .b 4 5 (.ro (.list (.base .str))), .b 4 6 (.ro (.list (.base .row))), .t 83 (.ro (.base .int)), .t 84 (.ro (.base .int))], boxes := [(3, 7), (4, 7)], ptrs := [(3, 3, 0), (4, 4, 0)] }), (4, { n := 121, its := [.t 2 (.ro (.base .bool)), .b 3 0 (.ro (.base .int)), .b 3 1 (.ro (.base .int)), .b 3 2 (.ro (.base .int)), .b 3 3 (.ro (.base .str)), .b 3 4 (.ro (.list (.base .val))), .b 3 5 (.ro (.list (.base .str))), .b 3 6 (.ro (.list (.base .row))), .b 4 0 (.ro (.base .int)), .b 4 1 (.ro (.base .int)), .b 4 2 (.ro (.base .int)), .b 4 3 (.ro (.base .str)), .b 4 4 (.ro (.list (.base .val))), .b 4 5 (.ro (.list (.base .str))), .b 4 6 (.ro (.list (.base .row))), .t 63 (.ro (.base .int)), .t 64 (.ro (.base .int))], boxes := [(3, 7), (4, 7)], ptrs := [(3, 3, 0), (4, 4, 0)] })] Try.f168 iEqualFS.ps iEqualFS.rs iEqualFS.ex (a, b, c) = iEqualB riEqual a b c := by kernel_rfl
theorem iEqualG_sound : ∀ n, Sound Try.prog (iEqualFSN n)
  | 0 => (fun w S args x y h => by cases h)
  | n + 1 => by
    have ih := iEqualG_sound n
    exact sound_of_den (s := iEqualFSN (n + 1)) (E := { tt := tt, fs := [iSameIntFS, iSameStringFS, iSameOriginFS, iEqualFSN n] }) (.cons iSameInt_callable iSameInt_sound (.cons iSameString_callable iSameString_sound (.cons iSameOrigin_callable iSameOrigin_sound (.cons iEqual_callable ih (.nil tt_ok))))) mixed_ok [(10, { n := 121, its := [.t 2 (.ro (.base .bool)), .b 3 0 (.ro (.base .int)), .b 3 1 (.ro (.base .int)), .b 3 2 (.ro (.base .int)), .b 3 3 (.ro (.base .str)), .b 3 4 (.ro (.list (.base .val))), .b 3 5 (.ro (.list (.base .str))), .b 3 6 (.ro (.list (.base .row))), .b 4 0 (.ro (.base .int)), .b 4 1 (.ro (.base .int)), .b 4 2 (.ro (.base .int)), .b 4 3 (.ro (.base .str)), .b 4 4 (.ro (.list (.base .val))), .b 4 5 (.ro (.list (.base .str))), .b 4 6 (.ro (.list (.base .row))), .t 83 (.ro (.base .int)), .t 84 (.ro (.base .int))], boxes := [(3, 7), (4, 7)], ptrs := [(3, 3, 0), (4, 4, 0)] }), (4, { n := 121, its := [.t 2 (.ro (.base .bool)), .b 3 0 (.ro (.base .int)), .b 3 1 (.ro (.base .int)), .b 3 2 (.ro (.base .int)), .b 3 3 (.ro (.base .str)), .b 3 4 (.ro (.list (.base .val))), .b 3 5 (.ro (.list (.base .str))), .b 3 6 (.ro (.list (.base .row))), .b 4 0 (.ro (.base .int)), .b 4 1 (.ro (.base .int)), .b 4 2 (.ro (.base .int)), .b 4 3 (.ro (.base .str)), .b 4 4 (.ro (.list (.base .val))), .b 4 5 (.ro (.list (.base .str))), .b 4 6 (.ro (.list (.base .row))), .t 63 (.ro (.base .int)), .t 64 (.ro (.base .int))], boxes := [(3, 7), (4, 7)], ptrs := [(3, 3, 0), (4, 4, 0)] })] (fn := Try.f168) (by kernel_rfl) fun x => iEqual_den _ x.1 x.2.1 x.2.2
theorem iEqual_sound : Sound Try.prog iEqualFS := fun w S args x y h => (iEqualG_sound (siz (α := GVal) x.1 + siz (α := GVal) x.2.1 + 1)) w S args x y h
theorem iEqualValue_callable : callable Try.prog 145 = true := by kernel_rfl
theorem iEqualValue_den (a : GVal) (b : GVal) : denF { tt := tt, fs := [iEqualFS] } [] Try.f145 iEqualValueFS.ps iEqualValueFS.rs iEqualValueFS.ex (a, b) = iEqualValue a b := by kernel_rfl
theorem iEqualValue_sound : Sound Try.prog iEqualValueFS :=
  sound_of_den (E := { tt := tt, fs := [iEqualFS] }) (.cons iEqual_callable iEqual_sound (.nil tt_ok)) mixed_ok [] (fn := Try.f145) (by kernel_rfl) fun x => iEqualValue_den x.1 x.2
theorem iEqualReads_callable : callable Try.prog 114 = true := by kernel_rfl
theorem iEqualReads_den (a : List GRead) (b : List GRead) : denF { tt := tt, fs := [iSameReadFS, iEqualValueFS] } [(4, { n := 41, its := [.t 0 (.ro (.list (.base .read))), .t 1 (.ro (.list (.base .read))), .t 12 (.ro (.base .int)), .t 13 (.ro (.base .int))], boxes := [], ptrs := [] })] Try.f114 iEqualReadsFS.ps iEqualReadsFS.rs iEqualReadsFS.ex (a, b) = iEqualReads a b := by kernel_rfl
theorem iEqualReads_sound : Sound Try.prog iEqualReadsFS :=
  sound_of_den (E := { tt := tt, fs := [iSameReadFS, iEqualValueFS] }) (.cons iSameRead_callable iSameRead_sound (.cons iEqualValue_callable iEqualValue_sound (.nil tt_ok))) mixed_ok [(4, { n := 41, its := [.t 0 (.ro (.list (.base .read))), .t 1 (.ro (.list (.base .read))), .t 12 (.ro (.base .int)), .t 13 (.ro (.base .int))], boxes := [], ptrs := [] })] (fn := Try.f114) (by kernel_rfl) fun x => iEqualReads_den x.1 x.2
theorem iEqualOp_callable : callable Try.prog 58 = true := by kernel_rfl
theorem iEqualOp_den (a : GOp) (b : GOp) : denF { tt := tt, fs := [iSameIntFS, iEqualReadsFS] } [] Try.f58 iEqualOpFS.ps iEqualOpFS.rs iEqualOpFS.ex (a, b) = iEqualOp a b := by kernel_rfl
theorem iEqualOp_sound : Sound Try.prog iEqualOpFS :=
  sound_of_den (E := { tt := tt, fs := [iSameIntFS, iEqualReadsFS] }) (.cons iSameInt_callable iSameInt_sound (.cons iEqualReads_callable iEqualReads_sound (.nil tt_ok))) mixed_ok [] (fn := Try.f58) (by kernel_rfl) fun x => iEqualOp_den x.1 x.2
theorem FnExactEqualOp_callable : callable Try.prog 11 = true := by kernel_rfl
theorem FnExactEqualOp_den (a : GOp) (b : GOp) : denF { tt := tt, fs := [szOpFS, toOpFS, eqOpFS, sEqualOpFS, iEqualOpFS] } [] Try.f11 FnExactEqualOpFS.ps FnExactEqualOpFS.rs FnExactEqualOpFS.ex (a, b) = FnExactEqualOp a b := by kernel_rfl
theorem FnExactEqualOp_sound : Sound Try.prog FnExactEqualOpFS :=
  sound_of_den (E := { tt := tt, fs := [szOpFS, toOpFS, eqOpFS, sEqualOpFS, iEqualOpFS] }) (.cons szOp_callable szOp_sound (.cons toOp_callable toOp_sound (.cons eqOp_callable eqOp_sound (.cons sEqualOp_callable sEqualOp_sound (.cons iEqualOp_callable iEqualOp_sound (.nil tt_ok)))))) mixed_ok [] (fn := Try.f11) (by kernel_rfl) fun x => FnExactEqualOp_den x.1 x.2
theorem szReplica_callable : callable Try.prog 59 = true := by kernel_rfl
theorem szReplica_den (a : GReplica) (b : Int) : denF { tt := tt, fs := [szOpSFS] } [] Try.f59 szReplicaFS.ps szReplicaFS.rs szReplicaFS.ex (a, b) = szReplica a b := by kernel_rfl
theorem szReplica_sound : Sound Try.prog szReplicaFS :=
  sound_of_den (E := { tt := tt, fs := [szOpSFS] }) (.cons szOpS_callable szOpS_sound (.nil tt_ok)) mixed_ok [] (fn := Try.f59) (by kernel_rfl) fun x => szReplica_den x.1 x.2
theorem sIsValidReplica_callable : callable Try.prog 60 = true := by kernel_rfl
theorem sIsValidReplica_den (a : GReplica) : denF { tt := tt, fs := [sIsValidLogFS, sL1InFS] } [] Try.f60 sIsValidReplicaFS.ps sIsValidReplicaFS.rs sIsValidReplicaFS.ex a = sIsValidReplica a := by kernel_rfl
theorem sIsValidReplica_sound : Sound Try.prog sIsValidReplicaFS :=
  sound_of_den (E := { tt := tt, fs := [sIsValidLogFS, sL1InFS] }) (.cons sIsValidLog_callable sIsValidLog_sound (.cons sL1In_callable sL1In_sound (.nil tt_ok))) mixed_ok [] (fn := Try.f60) (by kernel_rfl) fun x => sIsValidReplica_den x
theorem toReplica_callable : callable Try.prog 61 = true := by kernel_rfl
theorem toReplica_den (a : GReplica) : denF { tt := tt, fs := [toOpSFS] } [] Try.f61 toReplicaFS.ps toReplicaFS.rs toReplicaFS.ex a = toReplica a := by kernel_rfl
theorem toReplica_sound : Sound Try.prog toReplicaFS :=
  sound_of_den (E := { tt := tt, fs := [toOpSFS] }) (.cons toOpS_callable toOpS_sound (.nil tt_ok)) mixed_ok [] (fn := Try.f61) (by kernel_rfl) fun x => toReplica_den x
theorem iIsValidReplica_callable : callable Try.prog 62 = true := by kernel_rfl
theorem iIsValidReplica_den (a : GReplica) : denF { tt := tt, fs := [iIsValidLogFS, iWithinFS] } [] Try.f62 iIsValidReplicaFS.ps iIsValidReplicaFS.rs iIsValidReplicaFS.ex a = iIsValidReplica a := by kernel_rfl
theorem iIsValidReplica_sound : Sound Try.prog iIsValidReplicaFS :=
  sound_of_den (E := { tt := tt, fs := [iIsValidLogFS, iWithinFS] }) (.cons iIsValidLog_callable iIsValidLog_sound (.cons iWithin_callable iWithin_sound (.nil tt_ok))) mixed_ok [] (fn := Try.f62) (by kernel_rfl) fun x => iIsValidReplica_den x
theorem FnExactIsValidReplica_callable : callable Try.prog 12 = true := by kernel_rfl
theorem FnExactIsValidReplica_den (a : GReplica) : denF { tt := tt, fs := [eqReplicaFS, szReplicaFS, sIsValidReplicaFS, toReplicaFS, iIsValidReplicaFS] } [] Try.f12 FnExactIsValidReplicaFS.ps FnExactIsValidReplicaFS.rs FnExactIsValidReplicaFS.ex a = FnExactIsValidReplica a := by kernel_rfl
theorem FnExactIsValidReplica_sound : Sound Try.prog FnExactIsValidReplicaFS :=
  sound_of_den (E := { tt := tt, fs := [eqReplicaFS, szReplicaFS, sIsValidReplicaFS, toReplicaFS, iIsValidReplicaFS] }) (.cons eqReplica_callable eqReplica_sound (.cons szReplica_callable szReplica_sound (.cons sIsValidReplica_callable sIsValidReplica_sound (.cons toReplica_callable toReplica_sound (.cons iIsValidReplica_callable iIsValidReplica_sound (.nil tt_ok)))))) mixed_ok [] (fn := Try.f12) (by kernel_rfl) fun x => FnExactIsValidReplica_den x
theorem sSeenBy_callable : callable Try.prog 63 = true := by kernel_rfl
theorem sSeenBy_den (a : GReplica) : denF { tt := tt, fs := [sCountByFS] } [(3, { n := 18, its := [.b 1 0 (.ro (.base .int)), .b 1 1 (.ro (.list (.base .op))), .t 3 (.own (.base .int) true true 0), .t 4 (.ro (.base .int))], boxes := [(1, 2)], ptrs := [(1, 1, 0)] })] Try.f63 sSeenByFS.ps sSeenByFS.rs sSeenByFS.ex a = sSeenBy a := by kernel_rfl
theorem sSeenBy_sound : Sound Try.prog sSeenByFS :=
  sound_of_den (E := { tt := tt, fs := [sCountByFS] }) (.cons sCountBy_callable sCountBy_sound (.nil tt_ok)) mixed_ok [(3, { n := 18, its := [.b 1 0 (.ro (.base .int)), .b 1 1 (.ro (.list (.base .op))), .t 3 (.own (.base .int) true true 0), .t 4 (.ro (.base .int))], boxes := [(1, 2)], ptrs := [(1, 1, 0)] })] (fn := Try.f63) (by kernel_rfl) fun x => sSeenBy_den x
theorem iSeenBy_callable : callable Try.prog 64 = true := by kernel_rfl
theorem iSeenBy_den (a : GReplica) : denF { tt := tt, fs := [iCountByFS] } [(3, { n := 18, its := [.b 1 0 (.ro (.base .int)), .b 1 1 (.ro (.list (.base .op))), .t 3 (.own (.base .int) true true 0), .t 4 (.ro (.base .int))], boxes := [(1, 2)], ptrs := [(1, 1, 0)] })] Try.f64 iSeenByFS.ps iSeenByFS.rs iSeenByFS.ex a = iSeenBy a := by kernel_rfl
theorem iSeenBy_sound : Sound Try.prog iSeenByFS :=
  sound_of_den (E := { tt := tt, fs := [iCountByFS] }) (.cons iCountBy_callable iCountBy_sound (.nil tt_ok)) mixed_ok [(3, { n := 18, its := [.b 1 0 (.ro (.base .int)), .b 1 1 (.ro (.list (.base .op))), .t 3 (.own (.base .int) true true 0), .t 4 (.ro (.base .int))], boxes := [(1, 2)], ptrs := [(1, 1, 0)] })] (fn := Try.f64) (by kernel_rfl) fun x => iSeenBy_den x
theorem szTape_callable : callable Try.prog 146 = true := by kernel_rfl
theorem szTape_den (a : GTape) (b : Int) : denF { tt := tt, fs := [szReadSFS] } [] Try.f146 szTapeFS.ps szTapeFS.rs szTapeFS.ex (a, b) = szTape a b := by kernel_rfl
theorem szTape_sound : Sound Try.prog szTapeFS :=
  sound_of_den (E := { tt := tt, fs := [szReadSFS] }) (.cons szReadS_callable szReadS_sound (.nil tt_ok)) mixed_ok [] (fn := Try.f146) (by kernel_rfl) fun x => szTape_den x.1 x.2
theorem szTapeS_callable : callable Try.prog 115 = true := by kernel_rfl
theorem szTapeS_den (a : List GTape) (b : Int) : denF { tt := tt, fs := [szTapeFS] } [(5, { n := 27, its := [.t 0 (.ro (.list (.base .tape))), .t 1 (.ro (.base .int)), .t 5 (.ro (.base .int))], boxes := [], ptrs := [] })] Try.f115 szTapeSFS.ps szTapeSFS.rs szTapeSFS.ex (a, b) = szTapeS a b := by kernel_rfl
theorem szTapeS_sound : Sound Try.prog szTapeSFS :=
  sound_of_den (E := { tt := tt, fs := [szTapeFS] }) (.cons szTape_callable szTape_sound (.nil tt_ok)) mixed_ok [(5, { n := 27, its := [.t 0 (.ro (.list (.base .tape))), .t 1 (.ro (.base .int)), .t 5 (.ro (.base .int))], boxes := [], ptrs := [] })] (fn := Try.f115) (by kernel_rfl) fun x => szTapeS_den x.1 x.2
theorem szDocument_callable : callable Try.prog 65 = true := by kernel_rfl
theorem szDocument_den (a : GDocument) (b : Int) : denF { tt := tt, fs := [szNotebookFS, szOpSFS, szTapeSFS] } [] Try.f65 szDocumentFS.ps szDocumentFS.rs szDocumentFS.ex (a, b) = szDocument a b := by kernel_rfl
theorem szDocument_sound : Sound Try.prog szDocumentFS :=
  sound_of_den (E := { tt := tt, fs := [szNotebookFS, szOpSFS, szTapeSFS] }) (.cons szNotebook_callable szNotebook_sound (.cons szOpS_callable szOpS_sound (.cons szTapeS_callable szTapeS_sound (.nil tt_ok)))) mixed_ok [] (fn := Try.f65) (by kernel_rfl) fun x => szDocument_den x.1 x.2
theorem sL42Tapes_callable : callable Try.prog 117 = true := by kernel_rfl
theorem sL42Tapes_den (a : List GTape) (b : List GTape) : denF { tt := tt, fs := [sL41SameFS] } [(4, { n := 55, its := [.t 0 (.ro (.list (.base .tape))), .t 1 (.ro (.list (.base .tape))), .t 5 (.ro (.base .int))], boxes := [], ptrs := [] })] Try.f117 sL42TapesFS.ps sL42TapesFS.rs sL42TapesFS.ex (a, b) = sL42Tapes a b := by kernel_rfl
theorem sL42Tapes_sound : Sound Try.prog sL42TapesFS :=
  sound_of_den (E := { tt := tt, fs := [sL41SameFS] }) (.cons sL41Same_callable sL41Same_sound (.nil tt_ok)) mixed_ok [(4, { n := 55, its := [.t 0 (.ro (.list (.base .tape))), .t 1 (.ro (.list (.base .tape))), .t 5 (.ro (.base .int))], boxes := [], ptrs := [] })] (fn := Try.f117) (by kernel_rfl) fun x => sL42Tapes_den x.1 x.2
theorem sEqualDocument_callable : callable Try.prog 66 = true := by kernel_rfl
theorem sEqualDocument_den (a : GDocument) (b : GDocument) : denF { tt := tt, fs := [sEqualNotebookFS, sL42TapesFS] } [] Try.f66 sEqualDocumentFS.ps sEqualDocumentFS.rs sEqualDocumentFS.ex (a, b) = sEqualDocument a b := by kernel_rfl
theorem sEqualDocument_sound : Sound Try.prog sEqualDocumentFS :=
  sound_of_den (E := { tt := tt, fs := [sEqualNotebookFS, sL42TapesFS] }) (.cons sEqualNotebook_callable sEqualNotebook_sound (.cons sL42Tapes_callable sL42Tapes_sound (.nil tt_ok))) mixed_ok [] (fn := Try.f66) (by kernel_rfl) fun x => sEqualDocument_den x.1 x.2
theorem toTape_callable : callable Try.prog 147 = true := by kernel_rfl
theorem toTape_den (a : GTape) : denF { tt := tt, fs := [toReadSFS] } [] Try.f147 toTapeFS.ps toTapeFS.rs toTapeFS.ex a = toTape a := by kernel_rfl
theorem toTape_sound : Sound Try.prog toTapeFS :=
  sound_of_den (E := { tt := tt, fs := [toReadSFS] }) (.cons toReadS_callable toReadS_sound (.nil tt_ok)) mixed_ok [] (fn := Try.f147) (by kernel_rfl) fun x => toTape_den x
theorem toTapeS_callable : callable Try.prog 118 = true := by kernel_rfl
theorem toTapeS_den (a : List GTape) : denF { tt := tt, fs := [toTapeFS] } [(3, { n := 23, its := [.t 0 (.ro (.list (.base .tape))), .t 3 (.own (.base .tape) true true 0), .t 4 (.ro (.base .int))], boxes := [], ptrs := [] })] Try.f118 toTapeSFS.ps toTapeSFS.rs toTapeSFS.ex a = toTapeS a := by kernel_rfl
theorem toTapeS_sound : Sound Try.prog toTapeSFS :=
  sound_of_den (E := { tt := tt, fs := [toTapeFS] }) (.cons toTape_callable toTape_sound (.nil tt_ok)) mixed_ok [(3, { n := 23, its := [.t 0 (.ro (.list (.base .tape))), .t 3 (.own (.base .tape) true true 0), .t 4 (.ro (.base .int))], boxes := [], ptrs := [] })] (fn := Try.f118) (by kernel_rfl) fun x => toTapeS_den x
theorem toDocument_callable : callable Try.prog 67 = true := by kernel_rfl
theorem toDocument_den (a : GDocument) : denF { tt := tt, fs := [toNotebookFS, toOpSFS, toTapeSFS] } [] Try.f67 toDocumentFS.ps toDocumentFS.rs toDocumentFS.ex a = toDocument a := by kernel_rfl
theorem toDocument_sound : Sound Try.prog toDocumentFS :=
  sound_of_den (E := { tt := tt, fs := [toNotebookFS, toOpSFS, toTapeSFS] }) (.cons toNotebook_callable toNotebook_sound (.cons toOpS_callable toOpS_sound (.cons toTapeS_callable toTapeS_sound (.nil tt_ok)))) mixed_ok [] (fn := Try.f67) (by kernel_rfl) fun x => toDocument_den x
theorem iEqualTapes_callable : callable Try.prog 120 = true := by kernel_rfl
theorem iEqualTapes_den (a : List GTape) (b : List GTape) : denF { tt := tt, fs := [iEqualReadsFS] } [(4, { n := 55, its := [.t 0 (.ro (.list (.base .tape))), .t 1 (.ro (.list (.base .tape))), .t 12 (.ro (.base .int)), .t 13 (.ro (.base .int))], boxes := [], ptrs := [] })] Try.f120 iEqualTapesFS.ps iEqualTapesFS.rs iEqualTapesFS.ex (a, b) = iEqualTapes a b := by kernel_rfl
theorem iEqualTapes_sound : Sound Try.prog iEqualTapesFS :=
  sound_of_den (E := { tt := tt, fs := [iEqualReadsFS] }) (.cons iEqualReads_callable iEqualReads_sound (.nil tt_ok)) mixed_ok [(4, { n := 55, its := [.t 0 (.ro (.list (.base .tape))), .t 1 (.ro (.list (.base .tape))), .t 12 (.ro (.base .int)), .t 13 (.ro (.base .int))], boxes := [], ptrs := [] })] (fn := Try.f120) (by kernel_rfl) fun x => iEqualTapes_den x.1 x.2
theorem iEqualDocument_callable : callable Try.prog 68 = true := by kernel_rfl
theorem iEqualDocument_den (a : GDocument) (b : GDocument) : denF { tt := tt, fs := [iEqualNotebookFS, iEqualTapesFS] } [] Try.f68 iEqualDocumentFS.ps iEqualDocumentFS.rs iEqualDocumentFS.ex (a, b) = iEqualDocument a b := by kernel_rfl
theorem iEqualDocument_sound : Sound Try.prog iEqualDocumentFS :=
  sound_of_den (E := { tt := tt, fs := [iEqualNotebookFS, iEqualTapesFS] }) (.cons iEqualNotebook_callable iEqualNotebook_sound (.cons iEqualTapes_callable iEqualTapes_sound (.nil tt_ok))) mixed_ok [] (fn := Try.f68) (by kernel_rfl) fun x => iEqualDocument_den x.1 x.2
theorem eqTape_callable : callable Try.prog 149 = true := by kernel_rfl
theorem eqTape_den (a : GTape) (b : GTape) : denF { tt := tt, fs := [eqReadSFS] } [] Try.f149 eqTapeFS.ps eqTapeFS.rs eqTapeFS.ex (a, b) = eqTape a b := by kernel_rfl
theorem eqTape_sound : Sound Try.prog eqTapeFS :=
  sound_of_den (E := { tt := tt, fs := [eqReadSFS] }) (.cons eqReadS_callable eqReadS_sound (.nil tt_ok)) mixed_ok [] (fn := Try.f149) (by kernel_rfl) fun x => eqTape_den x.1 x.2
theorem eqTapeS_callable : callable Try.prog 121 = true := by kernel_rfl
theorem eqTapeS_den (a : List GTape) (b : List GTape) : denF { tt := tt, fs := [eqTapeFS] } [(4, { n := 27, its := [.t 0 (.ro (.list (.base .tape))), .t 1 (.ro (.list (.base .tape))), .t 5 (.ro (.base .int))], boxes := [], ptrs := [] })] Try.f121 eqTapeSFS.ps eqTapeSFS.rs eqTapeSFS.ex (a, b) = eqTapeS a b := by kernel_rfl
theorem eqTapeS_sound : Sound Try.prog eqTapeSFS :=
  sound_of_den (E := { tt := tt, fs := [eqTapeFS] }) (.cons eqTape_callable eqTape_sound (.nil tt_ok)) mixed_ok [(4, { n := 27, its := [.t 0 (.ro (.list (.base .tape))), .t 1 (.ro (.list (.base .tape))), .t 5 (.ro (.base .int))], boxes := [], ptrs := [] })] (fn := Try.f121) (by kernel_rfl) fun x => eqTapeS_den x.1 x.2
theorem eqDocument_callable : callable Try.prog 69 = true := by kernel_rfl
theorem eqDocument_den (a : GDocument) (b : GDocument) : denF { tt := tt, fs := [eqNotebookFS, eqOpSFS, eqTapeSFS] } [] Try.f69 eqDocumentFS.ps eqDocumentFS.rs eqDocumentFS.ex (a, b) = eqDocument a b := by kernel_rfl
theorem eqDocument_sound : Sound Try.prog eqDocumentFS :=
  sound_of_den (E := { tt := tt, fs := [eqNotebookFS, eqOpSFS, eqTapeSFS] }) (.cons eqNotebook_callable eqNotebook_sound (.cons eqOpS_callable eqOpS_sound (.cons eqTapeS_callable eqTapeS_sound (.nil tt_ok)))) mixed_ok [] (fn := Try.f69) (by kernel_rfl) fun x => eqDocument_den x.1 x.2
theorem FnExactEqualDocument_callable : callable Try.prog 14 = true := by kernel_rfl
theorem FnExactEqualDocument_den (a : GDocument) (b : GDocument) : denF { tt := tt, fs := [szDocumentFS, sEqualDocumentFS, toDocumentFS, iEqualDocumentFS, eqDocumentFS] } [] Try.f14 FnExactEqualDocumentFS.ps FnExactEqualDocumentFS.rs FnExactEqualDocumentFS.ex (a, b) = FnExactEqualDocument a b := by kernel_rfl
theorem FnExactEqualDocument_sound : Sound Try.prog FnExactEqualDocumentFS :=
  sound_of_den (E := { tt := tt, fs := [szDocumentFS, sEqualDocumentFS, toDocumentFS, iEqualDocumentFS, eqDocumentFS] }) (.cons szDocument_callable szDocument_sound (.cons sEqualDocument_callable sEqualDocument_sound (.cons toDocument_callable toDocument_sound (.cons iEqualDocument_callable iEqualDocument_sound (.cons eqDocument_callable eqDocument_sound (.nil tt_ok)))))) mixed_ok [] (fn := Try.f14) (by kernel_rfl) fun x => FnExactEqualDocument_den x.1 x.2
end Go.Proofs.Ytiedhibpaooldaa
