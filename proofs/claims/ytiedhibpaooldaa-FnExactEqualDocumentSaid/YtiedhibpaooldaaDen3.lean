/- The functions compute their models, by gen.py. -/
import Derived.Test.YtiedhibpaooldaaDen2
namespace Go.Proofs.Ytiedhibpaooldaa
open Go.Abs Go.Proofs
set_option maxRecDepth 100000
theorem toRowS_callable : callable Try.prog 178 = true := by kernel_rfl
theorem toRowS_den (a : List GRow) : denF { tt := tt, fs := [toRowFS] } [(3, { n := 23, its := [.t 0 (.ro (.list (.base .row))), .t 3 (.own (.base .row) true true 0), .t 4 (.ro (.base .int))], boxes := [], ptrs := [] })] Try.f178 toRowSFS.ps toRowSFS.rs toRowSFS.ex a = toRowS a := by kernel_rfl
theorem toRowS_sound : Sound Try.prog toRowSFS :=
  sound_of_den (E := { tt := tt, fs := [toRowFS] }) (.cons toRow_callable toRow_sound (.nil tt_ok)) mixed_ok [(3, { n := 23, its := [.t 0 (.ro (.list (.base .row))), .t 3 (.own (.base .row) true true 0), .t 4 (.ro (.base .int))], boxes := [], ptrs := [] })] (fn := Try.f178) (by kernel_rfl) fun x => toRowS_den x
theorem toValue_callable : callable Try.prog 155 = true := by kernel_rfl
theorem toValueS_callable : callable Try.prog 176 = true := by kernel_rfl
theorem toValue_den (rtoValue : GVal → Option (GVal)) (rtoValueS : (List GVal) → Option ((List GVal))) (a : GVal) : denF { tt := tt, fs := [toStringSFS, toRowSFS, { fid := 155, ps := [⟨true, .base .val⟩], rs := [⟨true, .base .val⟩], ex := true, fn := fun x => rtoValue x }, { fid := 176, ps := [⟨false, .list (.base .val)⟩], rs := [⟨false, .list (.base .val)⟩], ex := true, fn := fun x => rtoValueS x }] } [] Try.f155 toValueFS.ps toValueFS.rs toValueFS.ex a = toValueB rtoValue rtoValueS a := by kernel_rfl
theorem toValueS_den (rtoValue : GVal → Option (GVal)) (rtoValueS : (List GVal) → Option ((List GVal))) (a : List GVal) : denF { tt := tt, fs := [toStringSFS, toRowSFS, { fid := 155, ps := [⟨true, .base .val⟩], rs := [⟨true, .base .val⟩], ex := true, fn := fun x => rtoValue x }, { fid := 176, ps := [⟨false, .list (.base .val)⟩], rs := [⟨false, .list (.base .val)⟩], ex := true, fn := fun x => rtoValueS x }] } [(3, { n := 23, its := [.t 0 (.ro (.list (.base .val))), .t 3 (.own (.base .val) true true 0), .t 4 (.ro (.base .int))], boxes := [], ptrs := [] })] Try.f176 toValueSFS.ps toValueSFS.rs toValueSFS.ex a = toValueSB rtoValue rtoValueS a := by kernel_rfl
theorem toValueG_sound : ∀ n, Sound Try.prog (toValueFSN n) ∧ Sound Try.prog (toValueSFSN n)
  | 0 => ⟨(fun w S args x y h => by cases h), (fun w S args x y h => by cases h)⟩
  | n + 1 => by
    have ih := toValueG_sound n
    exact ⟨sound_of_den (s := toValueFSN (n + 1)) (E := { tt := tt, fs := [toStringSFS, toRowSFS, toValueFSN n, toValueSFSN n] }) (.cons toStringS_callable toStringS_sound (.cons toRowS_callable toRowS_sound (.cons toValue_callable ih.1 (.cons toValueS_callable ih.2 (.nil tt_ok))))) mixed_ok [] (fn := Try.f155) (by kernel_rfl) fun x => toValue_den _ _ x, sound_of_den (s := toValueSFSN (n + 1)) (E := { tt := tt, fs := [toStringSFS, toRowSFS, toValueFSN n, toValueSFSN n] }) (.cons toStringS_callable toStringS_sound (.cons toRowS_callable toRowS_sound (.cons toValue_callable ih.1 (.cons toValueS_callable ih.2 (.nil tt_ok))))) mixed_ok [(3, { n := 23, its := [.t 0 (.ro (.list (.base .val))), .t 3 (.own (.base .val) true true 0), .t 4 (.ro (.base .int))], boxes := [], ptrs := [] })] (fn := Try.f176) (by kernel_rfl) fun x => toValueS_den _ _ x⟩
theorem toValue_sound : Sound Try.prog toValueFS := fun w S args x y h => (toValueG_sound (siz (α := GVal) x + 1)).1 w S args x y h
theorem toValueS_sound : Sound Try.prog toValueSFS := fun w S args x y h => (toValueG_sound (siz (α := List GVal) x + 1)).2 w S args x y h
theorem toRead_callable : callable Try.prog 131 = true := by kernel_rfl
theorem toRead_den (a : GRead) : denF { tt := tt, fs := [toValueFS] } [] Try.f131 toReadFS.ps toReadFS.rs toReadFS.ex a = toRead a := by kernel_rfl
theorem toRead_sound : Sound Try.prog toReadFS :=
  sound_of_den (E := { tt := tt, fs := [toValueFS] }) (.cons toValue_callable toValue_sound (.nil tt_ok)) mixed_ok [] (fn := Try.f131) (by kernel_rfl) fun x => toRead_den x
theorem toReadS_callable : callable Try.prog 93 = true := by kernel_rfl
theorem toReadS_den (a : List GRead) : denF { tt := tt, fs := [toReadFS] } [(3, { n := 23, its := [.t 0 (.ro (.list (.base .read))), .t 3 (.own (.base .read) true true 0), .t 4 (.ro (.base .int))], boxes := [], ptrs := [] })] Try.f93 toReadSFS.ps toReadSFS.rs toReadSFS.ex a = toReadS a := by kernel_rfl
theorem toReadS_sound : Sound Try.prog toReadSFS :=
  sound_of_den (E := { tt := tt, fs := [toReadFS] }) (.cons toRead_callable toRead_sound (.nil tt_ok)) mixed_ok [(3, { n := 23, its := [.t 0 (.ro (.list (.base .read))), .t 3 (.own (.base .read) true true 0), .t 4 (.ro (.base .int))], boxes := [], ptrs := [] })] (fn := Try.f93) (by kernel_rfl) fun x => toReadS_den x
theorem toOp_callable : callable Try.prog 37 = true := by kernel_rfl
theorem toOp_den (a : GOp) : denF { tt := tt, fs := [toEditFS, toIntSFS, toReadSFS] } [] Try.f37 toOpFS.ps toOpFS.rs toOpFS.ex a = toOp a := by kernel_rfl
theorem toOp_sound : Sound Try.prog toOpFS :=
  sound_of_den (E := { tt := tt, fs := [toEditFS, toIntSFS, toReadSFS] }) (.cons toEdit_callable toEdit_sound (.cons toIntS_callable toIntS_sound (.cons toReadS_callable toReadS_sound (.nil tt_ok)))) mixed_ok [] (fn := Try.f37) (by kernel_rfl) fun x => toOp_den x
theorem toOpS_callable : callable Try.prog 38 = true := by kernel_rfl
theorem toOpS_den (a : List GOp) : denF { tt := tt, fs := [toOpFS] } [(3, { n := 23, its := [.t 0 (.ro (.list (.base .op))), .t 3 (.own (.base .op) true true 0), .t 4 (.ro (.base .int))], boxes := [], ptrs := [] })] Try.f38 toOpSFS.ps toOpSFS.rs toOpSFS.ex a = toOpS a := by kernel_rfl
theorem toOpS_sound : Sound Try.prog toOpSFS :=
  sound_of_den (E := { tt := tt, fs := [toOpFS] }) (.cons toOp_callable toOp_sound (.nil tt_ok)) mixed_ok [(3, { n := 23, its := [.t 0 (.ro (.list (.base .op))), .t 3 (.own (.base .op) true true 0), .t 4 (.ro (.base .int))], boxes := [], ptrs := [] })] (fn := Try.f38) (by kernel_rfl) fun x => toOpS_den x
theorem iCountBy_callable : callable Try.prog 94 = true := by kernel_rfl
theorem iCountBy_den (a : List GOp) (b : Int) : denF { tt := tt, fs := [] } [(3, { n := 22, its := [.t 1 (.ro (.base .int)), .t 5 (.ro (.base .int)), .t 8 (.ro (.list (.base .op))), .t 9 (.ro (.base .int)), .t 10 (.ro (.base .int))], boxes := [], ptrs := [] })] Try.f94 iCountByFS.ps iCountByFS.rs iCountByFS.ex (a, b) = iCountBy a b := by kernel_rfl
theorem iCountBy_sound : Sound Try.prog iCountByFS :=
  sound_of_den (E := { tt := tt, fs := [] }) (.nil tt_ok) mixed_ok [(3, { n := 22, its := [.t 1 (.ro (.base .int)), .t 5 (.ro (.base .int)), .t 8 (.ro (.list (.base .op))), .t 9 (.ro (.base .int)), .t 10 (.ro (.base .int))], boxes := [], ptrs := [] })] (fn := Try.f94) (by kernel_rfl) fun x => iCountBy_den x.1 x.2
theorem iHasSeen_callable : callable Try.prog 39 = true := by kernel_rfl
theorem iHasSeen_den (a : GOp) (b : List GOp) (c : Int) : denF { tt := tt, fs := [iCountByFS] } [] Try.f39 iHasSeenFS.ps iHasSeenFS.rs iHasSeenFS.ex (a, b, c) = iHasSeen a b c := by kernel_rfl
theorem iHasSeen_sound : Sound Try.prog iHasSeenFS :=
  sound_of_den (E := { tt := tt, fs := [iCountByFS] }) (.cons iCountBy_callable iCountBy_sound (.nil tt_ok)) mixed_ok [] (fn := Try.f39) (by kernel_rfl) fun x => iHasSeen_den x.1 x.2.1 x.2.2
theorem eqStringS_callable : callable Try.prog 180 = true := by kernel_rfl
theorem eqStringS_den (a : List Str) (b : List Str) : denF { tt := tt, fs := [] } [(4, { n := 26, its := [.t 0 (.ro (.list (.base .str))), .t 1 (.ro (.list (.base .str))), .t 5 (.ro (.base .int))], boxes := [], ptrs := [] })] Try.f180 eqStringSFS.ps eqStringSFS.rs eqStringSFS.ex (a, b) = eqStringS a b := by kernel_rfl
theorem eqStringS_sound : Sound Try.prog eqStringSFS :=
  sound_of_den (E := { tt := tt, fs := [] }) (.nil tt_ok) mixed_ok [(4, { n := 26, its := [.t 0 (.ro (.list (.base .str))), .t 1 (.ro (.list (.base .str))), .t 5 (.ro (.base .int))], boxes := [], ptrs := [] })] (fn := Try.f180) (by kernel_rfl) fun x => eqStringS_den x.1 x.2
theorem eqOrigin_callable : callable Try.prog 198 = true := by kernel_rfl
theorem eqOrigin_den (a : GOrigin) (b : GOrigin) : denF { tt := tt, fs := [] } [] Try.f198 eqOriginFS.ps eqOriginFS.rs eqOriginFS.ex (a, b) = eqOrigin a b := by kernel_rfl
theorem eqOrigin_sound : Sound Try.prog eqOriginFS :=
  sound_of_den (E := { tt := tt, fs := [] }) (.nil tt_ok) mixed_ok [] (fn := Try.f198) (by kernel_rfl) fun x => eqOrigin_den x.1 x.2
theorem eqOriginS_callable : callable Try.prog 196 = true := by kernel_rfl
theorem eqOriginS_den (a : List GOrigin) (b : List GOrigin) : denF { tt := tt, fs := [eqOriginFS] } [(4, { n := 27, its := [.t 0 (.ro (.list (.base .origin))), .t 1 (.ro (.list (.base .origin))), .t 5 (.ro (.base .int))], boxes := [], ptrs := [] })] Try.f196 eqOriginSFS.ps eqOriginSFS.rs eqOriginSFS.ex (a, b) = eqOriginS a b := by kernel_rfl
theorem eqOriginS_sound : Sound Try.prog eqOriginSFS :=
  sound_of_den (E := { tt := tt, fs := [eqOriginFS] }) (.cons eqOrigin_callable eqOrigin_sound (.nil tt_ok)) mixed_ok [(4, { n := 27, its := [.t 0 (.ro (.list (.base .origin))), .t 1 (.ro (.list (.base .origin))), .t 5 (.ro (.base .int))], boxes := [], ptrs := [] })] (fn := Try.f196) (by kernel_rfl) fun x => eqOriginS_den x.1 x.2
theorem eqRow_callable : callable Try.prog 193 = true := by kernel_rfl
theorem eqRow_den (a : GRow) (b : GRow) : denF { tt := tt, fs := [eqIntSFS, eqOriginSFS] } [] Try.f193 eqRowFS.ps eqRowFS.rs eqRowFS.ex (a, b) = eqRow a b := by kernel_rfl
theorem eqRow_sound : Sound Try.prog eqRowFS :=
  sound_of_den (E := { tt := tt, fs := [eqIntSFS, eqOriginSFS] }) (.cons eqIntS_callable eqIntS_sound (.cons eqOriginS_callable eqOriginS_sound (.nil tt_ok))) mixed_ok [] (fn := Try.f193) (by kernel_rfl) fun x => eqRow_den x.1 x.2
theorem eqRowS_callable : callable Try.prog 181 = true := by kernel_rfl
theorem eqRowS_den (a : List GRow) (b : List GRow) : denF { tt := tt, fs := [eqRowFS] } [(4, { n := 27, its := [.t 0 (.ro (.list (.base .row))), .t 1 (.ro (.list (.base .row))), .t 5 (.ro (.base .int))], boxes := [], ptrs := [] })] Try.f181 eqRowSFS.ps eqRowSFS.rs eqRowSFS.ex (a, b) = eqRowS a b := by kernel_rfl
theorem eqRowS_sound : Sound Try.prog eqRowSFS :=
  sound_of_den (E := { tt := tt, fs := [eqRowFS] }) (.cons eqRow_callable eqRow_sound (.nil tt_ok)) mixed_ok [(4, { n := 27, its := [.t 0 (.ro (.list (.base .row))), .t 1 (.ro (.list (.base .row))), .t 5 (.ro (.base .int))], boxes := [], ptrs := [] })] (fn := Try.f181) (by kernel_rfl) fun x => eqRowS_den x.1 x.2
theorem eqValue_callable : callable Try.prog 156 = true := by kernel_rfl
theorem eqValueS_callable : callable Try.prog 179 = true := by kernel_rfl
theorem eqValue_den (reqValue : GVal → GVal → Option (Bool)) (reqValueS : (List GVal) → (List GVal) → Option (Bool)) (a : GVal) (b : GVal) : denF { tt := tt, fs := [eqStringSFS, eqRowSFS, { fid := 156, ps := [⟨true, .base .val⟩, ⟨true, .base .val⟩], rs := [⟨false, .base .bool⟩], ex := true, fn := fun x => reqValue x.1 x.2 }, { fid := 179, ps := [⟨false, .list (.base .val)⟩, ⟨false, .list (.base .val)⟩], rs := [⟨false, .base .bool⟩], ex := true, fn := fun x => reqValueS x.1 x.2 }] } [] Try.f156 eqValueFS.ps eqValueFS.rs eqValueFS.ex (a, b) = eqValueB reqValue reqValueS a b := by kernel_rfl
theorem eqValueS_den (reqValue : GVal → GVal → Option (Bool)) (reqValueS : (List GVal) → (List GVal) → Option (Bool)) (a : List GVal) (b : List GVal) : denF { tt := tt, fs := [eqStringSFS, eqRowSFS, { fid := 156, ps := [⟨true, .base .val⟩, ⟨true, .base .val⟩], rs := [⟨false, .base .bool⟩], ex := true, fn := fun x => reqValue x.1 x.2 }, { fid := 179, ps := [⟨false, .list (.base .val)⟩, ⟨false, .list (.base .val)⟩], rs := [⟨false, .base .bool⟩], ex := true, fn := fun x => reqValueS x.1 x.2 }] } [(4, { n := 27, its := [.t 0 (.ro (.list (.base .val))), .t 1 (.ro (.list (.base .val))), .t 5 (.ro (.base .int))], boxes := [], ptrs := [] })] Try.f179 eqValueSFS.ps eqValueSFS.rs eqValueSFS.ex (a, b) = eqValueSB reqValue reqValueS a b := by kernel_rfl
theorem eqValueG_sound : ∀ n, Sound Try.prog (eqValueFSN n) ∧ Sound Try.prog (eqValueSFSN n)
  | 0 => ⟨(fun w S args x y h => by cases h), (fun w S args x y h => by cases h)⟩
  | n + 1 => by
    have ih := eqValueG_sound n
    exact ⟨sound_of_den (s := eqValueFSN (n + 1)) (E := { tt := tt, fs := [eqStringSFS, eqRowSFS, eqValueFSN n, eqValueSFSN n] }) (.cons eqStringS_callable eqStringS_sound (.cons eqRowS_callable eqRowS_sound (.cons eqValue_callable ih.1 (.cons eqValueS_callable ih.2 (.nil tt_ok))))) mixed_ok [] (fn := Try.f156) (by kernel_rfl) fun x => eqValue_den _ _ x.1 x.2, sound_of_den (s := eqValueSFSN (n + 1)) (E := { tt := tt, fs := [eqStringSFS, eqRowSFS, eqValueFSN n, eqValueSFSN n] }) (.cons eqStringS_callable eqStringS_sound (.cons eqRowS_callable eqRowS_sound (.cons eqValue_callable ih.1 (.cons eqValueS_callable ih.2 (.nil tt_ok))))) mixed_ok [(4, { n := 27, its := [.t 0 (.ro (.list (.base .val))), .t 1 (.ro (.list (.base .val))), .t 5 (.ro (.base .int))], boxes := [], ptrs := [] })] (fn := Try.f179) (by kernel_rfl) fun x => eqValueS_den _ _ x.1 x.2⟩
theorem eqValue_sound : Sound Try.prog eqValueFS := fun w S args x y h => (eqValueG_sound (siz (α := GVal) x.1 + siz (α := GVal) x.2 + 1)).1 w S args x y h
theorem eqValueS_sound : Sound Try.prog eqValueSFS := fun w S args x y h => (eqValueG_sound (siz (α := List GVal) x.1 + siz (α := List GVal) x.2 + 1)).2 w S args x y h
theorem eqRead_callable : callable Try.prog 132 = true := by kernel_rfl
theorem eqRead_den (a : GRead) (b : GRead) : denF { tt := tt, fs := [eqValueFS] } [] Try.f132 eqReadFS.ps eqReadFS.rs eqReadFS.ex (a, b) = eqRead a b := by kernel_rfl
theorem eqRead_sound : Sound Try.prog eqReadFS :=
  sound_of_den (E := { tt := tt, fs := [eqValueFS] }) (.cons eqValue_callable eqValue_sound (.nil tt_ok)) mixed_ok [] (fn := Try.f132) (by kernel_rfl) fun x => eqRead_den x.1 x.2
theorem eqReadS_callable : callable Try.prog 95 = true := by kernel_rfl
theorem eqReadS_den (a : List GRead) (b : List GRead) : denF { tt := tt, fs := [eqReadFS] } [(4, { n := 27, its := [.t 0 (.ro (.list (.base .read))), .t 1 (.ro (.list (.base .read))), .t 5 (.ro (.base .int))], boxes := [], ptrs := [] })] Try.f95 eqReadSFS.ps eqReadSFS.rs eqReadSFS.ex (a, b) = eqReadS a b := by kernel_rfl
theorem eqReadS_sound : Sound Try.prog eqReadSFS :=
  sound_of_den (E := { tt := tt, fs := [eqReadFS] }) (.cons eqRead_callable eqRead_sound (.nil tt_ok)) mixed_ok [(4, { n := 27, its := [.t 0 (.ro (.list (.base .read))), .t 1 (.ro (.list (.base .read))), .t 5 (.ro (.base .int))], boxes := [], ptrs := [] })] (fn := Try.f95) (by kernel_rfl) fun x => eqReadS_den x.1 x.2
theorem eqOp_callable : callable Try.prog 40 = true := by kernel_rfl
theorem eqOp_den (a : GOp) (b : GOp) : denF { tt := tt, fs := [eqIntSFS, eqEditFS, eqReadSFS] } [] Try.f40 eqOpFS.ps eqOpFS.rs eqOpFS.ex (a, b) = eqOp a b := by kernel_rfl
theorem eqOp_sound : Sound Try.prog eqOpFS :=
  sound_of_den (E := { tt := tt, fs := [eqIntSFS, eqEditFS, eqReadSFS] }) (.cons eqIntS_callable eqIntS_sound (.cons eqEdit_callable eqEdit_sound (.cons eqReadS_callable eqReadS_sound (.nil tt_ok)))) mixed_ok [] (fn := Try.f40) (by kernel_rfl) fun x => eqOp_den x.1 x.2
theorem eqOpS_callable : callable Try.prog 41 = true := by kernel_rfl
theorem eqOpS_den (a : List GOp) (b : List GOp) : denF { tt := tt, fs := [eqOpFS] } [(4, { n := 27, its := [.t 0 (.ro (.list (.base .op))), .t 1 (.ro (.list (.base .op))), .t 5 (.ro (.base .int))], boxes := [], ptrs := [] })] Try.f41 eqOpSFS.ps eqOpSFS.rs eqOpSFS.ex (a, b) = eqOpS a b := by kernel_rfl
theorem eqOpS_sound : Sound Try.prog eqOpSFS :=
  sound_of_den (E := { tt := tt, fs := [eqOpFS] }) (.cons eqOp_callable eqOp_sound (.nil tt_ok)) mixed_ok [(4, { n := 27, its := [.t 0 (.ro (.list (.base .op))), .t 1 (.ro (.list (.base .op))), .t 5 (.ro (.base .int))], boxes := [], ptrs := [] })] (fn := Try.f41) (by kernel_rfl) fun x => eqOpS_den x.1 x.2
theorem FnExactHasSeen_callable : callable Try.prog 6 = true := by kernel_rfl
theorem FnExactHasSeen_den (a : GOp) (b : List GOp) (c : Int) : denF { tt := tt, fs := [szOpFS, szOpSFS, sHasSeenFS, toOpFS, toOpSFS, iHasSeenFS, eqOpFS, eqOpSFS] } [] Try.f6 FnExactHasSeenFS.ps FnExactHasSeenFS.rs FnExactHasSeenFS.ex (a, b, c) = FnExactHasSeen a b c := by kernel_rfl
theorem FnExactHasSeen_sound : Sound Try.prog FnExactHasSeenFS :=
  sound_of_den (E := { tt := tt, fs := [szOpFS, szOpSFS, sHasSeenFS, toOpFS, toOpSFS, iHasSeenFS, eqOpFS, eqOpSFS] }) (.cons szOp_callable szOp_sound (.cons szOpS_callable szOpS_sound (.cons sHasSeen_callable sHasSeen_sound (.cons toOp_callable toOp_sound (.cons toOpS_callable toOpS_sound (.cons iHasSeen_callable iHasSeen_sound (.cons eqOp_callable eqOp_sound (.cons eqOpS_callable eqOpS_sound (.nil tt_ok))))))))) mixed_ok [] (fn := Try.f6) (by kernel_rfl) fun x => FnExactHasSeen_den x.1 x.2.1 x.2.2
theorem szNode_callable : callable Try.prog 133 = true := by kernel_rfl
theorem szNode_den (a : GNode) (b : Int) : denF { tt := tt, fs := [szEditSFS] } [] Try.f133 szNodeFS.ps szNodeFS.rs szNodeFS.ex (a, b) = szNode a b := by kernel_rfl
theorem szNode_sound : Sound Try.prog szNodeFS :=
  sound_of_den (E := { tt := tt, fs := [szEditSFS] }) (.cons szEditS_callable szEditS_sound (.nil tt_ok)) mixed_ok [] (fn := Try.f133) (by kernel_rfl) fun x => szNode_den x.1 x.2
theorem szNodeS_callable : callable Try.prog 96 = true := by kernel_rfl
theorem szNodeS_den (a : List GNode) (b : Int) : denF { tt := tt, fs := [szNodeFS] } [(5, { n := 27, its := [.t 0 (.ro (.list (.base .node))), .t 1 (.ro (.base .int)), .t 5 (.ro (.base .int))], boxes := [], ptrs := [] })] Try.f96 szNodeSFS.ps szNodeSFS.rs szNodeSFS.ex (a, b) = szNodeS a b := by kernel_rfl
theorem szNodeS_sound : Sound Try.prog szNodeSFS :=
  sound_of_den (E := { tt := tt, fs := [szNodeFS] }) (.cons szNode_callable szNode_sound (.nil tt_ok)) mixed_ok [(5, { n := 27, its := [.t 0 (.ro (.list (.base .node))), .t 1 (.ro (.base .int)), .t 5 (.ro (.base .int))], boxes := [], ptrs := [] })] (fn := Try.f96) (by kernel_rfl) fun x => szNodeS_den x.1 x.2
theorem szHistory_callable : callable Try.prog 42 = true := by kernel_rfl
theorem szHistory_den (a : GHistory) (b : Int) : denF { tt := tt, fs := [szNotebookFS, szNodeSFS] } [] Try.f42 szHistoryFS.ps szHistoryFS.rs szHistoryFS.ex (a, b) = szHistory a b := by kernel_rfl
theorem szHistory_sound : Sound Try.prog szHistoryFS :=
  sound_of_den (E := { tt := tt, fs := [szNotebookFS, szNodeSFS] }) (.cons szNotebook_callable szNotebook_sound (.cons szNodeS_callable szNodeS_sound (.nil tt_ok))) mixed_ok [] (fn := Try.f42) (by kernel_rfl) fun x => szHistory_den x.1 x.2
theorem sIsValidHistory_callable : callable Try.prog 97 = true := by kernel_rfl
theorem sIsValidHistory_den (a : GHistory) : denF { tt := tt, fs := [sIsValidNotebookFS, sL1InFS] } [(3, { n := 53, its := [.b 1 0 (.ro (.list (.base .cell))), .b 1 1 (.ro (.list (.base .node))), .b 1 2 (.ro (.base .int)), .t 3 (.ro (.base .int)), .t 4 (.ro (.base .int))], boxes := [(1, 3)], ptrs := [(1, 1, 0)] })] Try.f97 sIsValidHistoryFS.ps sIsValidHistoryFS.rs sIsValidHistoryFS.ex a = sIsValidHistory a := by kernel_rfl
theorem sIsValidHistory_sound : Sound Try.prog sIsValidHistoryFS :=
  sound_of_den (E := { tt := tt, fs := [sIsValidNotebookFS, sL1InFS] }) (.cons sIsValidNotebook_callable sIsValidNotebook_sound (.cons sL1In_callable sL1In_sound (.nil tt_ok))) mixed_ok [(3, { n := 53, its := [.b 1 0 (.ro (.list (.base .cell))), .b 1 1 (.ro (.list (.base .node))), .b 1 2 (.ro (.base .int)), .t 3 (.ro (.base .int)), .t 4 (.ro (.base .int))], boxes := [(1, 3)], ptrs := [(1, 1, 0)] })] (fn := Try.f97) (by kernel_rfl) fun x => sIsValidHistory_den x
theorem sPathTo_callable : callable Try.prog 43 = true := by kernel_rfl
theorem sPathTo_den (a : GHistory) (b : Int) : denF { tt := tt, fs := [sL1InFS, sIsValidHistoryFS] } [(4, { n := 33, its := [.t 1 (.ro (.base .int)), .b 2 0 (.ro (.list (.base .cell))), .b 2 1 (.ro (.list (.base .node))), .b 2 2 (.ro (.base .int)), .t 5 (.own (.base .int) true true 0)], boxes := [(2, 3)], ptrs := [(2, 2, 0)] })] Try.f43 sPathToFS.ps sPathToFS.rs sPathToFS.ex (a, b) = sPathTo a b := by kernel_rfl
theorem sPathTo_sound : Sound Try.prog sPathToFS :=
  sound_of_den (E := { tt := tt, fs := [sL1InFS, sIsValidHistoryFS] }) (.cons sL1In_callable sL1In_sound (.cons sIsValidHistory_callable sIsValidHistory_sound (.nil tt_ok))) mixed_ok [(4, { n := 33, its := [.t 1 (.ro (.base .int)), .b 2 0 (.ro (.list (.base .cell))), .b 2 1 (.ro (.list (.base .node))), .b 2 2 (.ro (.base .int)), .t 5 (.own (.base .int) true true 0)], boxes := [(2, 3)], ptrs := [(2, 2, 0)] })] (fn := Try.f43) (by kernel_rfl) fun x => sPathTo_den x.1 x.2
theorem toNode_callable : callable Try.prog 134 = true := by kernel_rfl
theorem toNode_den (a : GNode) : denF { tt := tt, fs := [toEditSFS] } [] Try.f134 toNodeFS.ps toNodeFS.rs toNodeFS.ex a = toNode a := by kernel_rfl
theorem toNode_sound : Sound Try.prog toNodeFS :=
  sound_of_den (E := { tt := tt, fs := [toEditSFS] }) (.cons toEditS_callable toEditS_sound (.nil tt_ok)) mixed_ok [] (fn := Try.f134) (by kernel_rfl) fun x => toNode_den x
theorem toNodeS_callable : callable Try.prog 98 = true := by kernel_rfl
theorem toNodeS_den (a : List GNode) : denF { tt := tt, fs := [toNodeFS] } [(3, { n := 23, its := [.t 0 (.ro (.list (.base .node))), .t 3 (.own (.base .node) true true 0), .t 4 (.ro (.base .int))], boxes := [], ptrs := [] })] Try.f98 toNodeSFS.ps toNodeSFS.rs toNodeSFS.ex a = toNodeS a := by kernel_rfl
theorem toNodeS_sound : Sound Try.prog toNodeSFS :=
  sound_of_den (E := { tt := tt, fs := [toNodeFS] }) (.cons toNode_callable toNode_sound (.nil tt_ok)) mixed_ok [(3, { n := 23, its := [.t 0 (.ro (.list (.base .node))), .t 3 (.own (.base .node) true true 0), .t 4 (.ro (.base .int))], boxes := [], ptrs := [] })] (fn := Try.f98) (by kernel_rfl) fun x => toNodeS_den x
theorem toHistory_callable : callable Try.prog 44 = true := by kernel_rfl
theorem toHistory_den (a : GHistory) : denF { tt := tt, fs := [toNotebookFS, toNodeSFS] } [] Try.f44 toHistoryFS.ps toHistoryFS.rs toHistoryFS.ex a = toHistory a := by kernel_rfl
theorem toHistory_sound : Sound Try.prog toHistoryFS :=
  sound_of_den (E := { tt := tt, fs := [toNotebookFS, toNodeSFS] }) (.cons toNotebook_callable toNotebook_sound (.cons toNodeS_callable toNodeS_sound (.nil tt_ok))) mixed_ok [] (fn := Try.f44) (by kernel_rfl) fun x => toHistory_den x
theorem iIsValidHistory_callable : callable Try.prog 99 = true := by kernel_rfl
theorem iIsValidHistory_den (a : GHistory) : denF { tt := tt, fs := [iIsValidNotebookFS, iWithinFS] } [(4, { n := 49, its := [.t 36 (.ro (.list (.base .node))), .t 37 (.ro (.base .int)), .t 38 (.ro (.base .int))], boxes := [], ptrs := [] })] Try.f99 iIsValidHistoryFS.ps iIsValidHistoryFS.rs iIsValidHistoryFS.ex a = iIsValidHistory a := by kernel_rfl
theorem iIsValidHistory_sound : Sound Try.prog iIsValidHistoryFS :=
  sound_of_den (E := { tt := tt, fs := [iIsValidNotebookFS, iWithinFS] }) (.cons iIsValidNotebook_callable iIsValidNotebook_sound (.cons iWithin_callable iWithin_sound (.nil tt_ok))) mixed_ok [(4, { n := 49, its := [.t 36 (.ro (.list (.base .node))), .t 37 (.ro (.base .int)), .t 38 (.ro (.base .int))], boxes := [], ptrs := [] })] (fn := Try.f99) (by kernel_rfl) fun x => iIsValidHistory_den x
end Go.Proofs.Ytiedhibpaooldaa
