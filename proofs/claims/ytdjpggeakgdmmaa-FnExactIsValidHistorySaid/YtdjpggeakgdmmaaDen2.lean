/- The functions compute their models, by gen.py. -/
import Derived.Test.YtdjpggeakgdmmaaDen1
namespace Go.Proofs.Ytdjpggeakgdmmaa
open Go.Abs Go.Proofs
set_option maxRecDepth 100000
theorem toOriginS_callable : callable Try.prog 193 = true := by kernel_rfl
theorem toOriginS_den (a : List GOrigin) : denF { tt := tt, fs := [toOriginFS] } [(3, { n := 23, its := [.t 0 (.ro (.list (.base .origin))), .t 3 (.own (.base .origin) true true 0), .t 4 (.ro (.base .int))], boxes := [], ptrs := [] })] Try.f193 toOriginSFS.ps toOriginSFS.rs toOriginSFS.ex a = toOriginS a := by kernel_rfl
theorem toOriginS_sound : Sound Try.prog toOriginSFS :=
  sound_of_den (E := { tt := tt, fs := [toOriginFS] }) (.cons toOrigin_callable toOrigin_sound (.nil tt_ok)) mixed_ok [(3, { n := 23, its := [.t 0 (.ro (.list (.base .origin))), .t 3 (.own (.base .origin) true true 0), .t 4 (.ro (.base .int))], boxes := [], ptrs := [] })] (fn := Try.f193) (by kernel_rfl) fun x => toOriginS_den x
theorem toRow_callable : callable Try.prog 190 = true := by kernel_rfl
theorem toRow_den (a : GRow) : denF { tt := tt, fs := [toIntSFS, toOriginSFS] } [] Try.f190 toRowFS.ps toRowFS.rs toRowFS.ex a = toRow a := by kernel_rfl
theorem toRow_sound : Sound Try.prog toRowFS :=
  sound_of_den (E := { tt := tt, fs := [toIntSFS, toOriginSFS] }) (.cons toIntS_callable toIntS_sound (.cons toOriginS_callable toOriginS_sound (.nil tt_ok))) mixed_ok [] (fn := Try.f190) (by kernel_rfl) fun x => toRow_den x
theorem toRowS_callable : callable Try.prog 179 = true := by kernel_rfl
theorem toRowS_den (a : List GRow) : denF { tt := tt, fs := [toRowFS] } [(3, { n := 23, its := [.t 0 (.ro (.list (.base .row))), .t 3 (.own (.base .row) true true 0), .t 4 (.ro (.base .int))], boxes := [], ptrs := [] })] Try.f179 toRowSFS.ps toRowSFS.rs toRowSFS.ex a = toRowS a := by kernel_rfl
theorem toRowS_sound : Sound Try.prog toRowSFS :=
  sound_of_den (E := { tt := tt, fs := [toRowFS] }) (.cons toRow_callable toRow_sound (.nil tt_ok)) mixed_ok [(3, { n := 23, its := [.t 0 (.ro (.list (.base .row))), .t 3 (.own (.base .row) true true 0), .t 4 (.ro (.base .int))], boxes := [], ptrs := [] })] (fn := Try.f179) (by kernel_rfl) fun x => toRowS_den x
theorem toValue_callable : callable Try.prog 163 = true := by kernel_rfl
theorem toValueS_callable : callable Try.prog 177 = true := by kernel_rfl
theorem toValue_den (rtoValue : GVal → Option (GVal)) (rtoValueS : (List GVal) → Option ((List GVal))) (a : GVal) : denF { tt := tt, fs := [toStringSFS, toRowSFS, { fid := 163, ps := [⟨true, .base .val⟩], rs := [⟨true, .base .val⟩], ex := true, fn := fun x => rtoValue x }, { fid := 177, ps := [⟨false, .list (.base .val)⟩], rs := [⟨false, .list (.base .val)⟩], ex := true, fn := fun x => rtoValueS x }] } [] Try.f163 toValueFS.ps toValueFS.rs toValueFS.ex a = toValueB rtoValue rtoValueS a := by kernel_rfl
theorem toValueS_den (rtoValue : GVal → Option (GVal)) (rtoValueS : (List GVal) → Option ((List GVal))) (a : List GVal) : denF { tt := tt, fs := [toStringSFS, toRowSFS, { fid := 163, ps := [⟨true, .base .val⟩], rs := [⟨true, .base .val⟩], ex := true, fn := fun x => rtoValue x }, { fid := 177, ps := [⟨false, .list (.base .val)⟩], rs := [⟨false, .list (.base .val)⟩], ex := true, fn := fun x => rtoValueS x }] } [(3, { n := 23, its := [.t 0 (.ro (.list (.base .val))), .t 3 (.own (.base .val) true true 0), .t 4 (.ro (.base .int))], boxes := [], ptrs := [] })] Try.f177 toValueSFS.ps toValueSFS.rs toValueSFS.ex a = toValueSB rtoValue rtoValueS a := by kernel_rfl
theorem toValueG_sound : ∀ n, Sound Try.prog (toValueFSN n) ∧ Sound Try.prog (toValueSFSN n)
  | 0 => ⟨(fun w S args x y h => by cases h), (fun w S args x y h => by cases h)⟩
  | n + 1 => by
    have ih := toValueG_sound n
    exact ⟨sound_of_den (s := toValueFSN (n + 1)) (E := { tt := tt, fs := [toStringSFS, toRowSFS, toValueFSN n, toValueSFSN n] }) (.cons toStringS_callable toStringS_sound (.cons toRowS_callable toRowS_sound (.cons toValue_callable ih.1 (.cons toValueS_callable ih.2 (.nil tt_ok))))) mixed_ok [] (fn := Try.f163) (by kernel_rfl) fun x => toValue_den _ _ x, sound_of_den (s := toValueSFSN (n + 1)) (E := { tt := tt, fs := [toStringSFS, toRowSFS, toValueFSN n, toValueSFSN n] }) (.cons toStringS_callable toStringS_sound (.cons toRowS_callable toRowS_sound (.cons toValue_callable ih.1 (.cons toValueS_callable ih.2 (.nil tt_ok))))) mixed_ok [(3, { n := 23, its := [.t 0 (.ro (.list (.base .val))), .t 3 (.own (.base .val) true true 0), .t 4 (.ro (.base .int))], boxes := [], ptrs := [] })] (fn := Try.f177) (by kernel_rfl) fun x => toValueS_den _ _ x⟩
theorem toValue_sound : Sound Try.prog toValueFS := fun w S args x y h => (toValueG_sound (siz (α := GVal) x + 1)).1 w S args x y h
theorem toValueS_sound : Sound Try.prog toValueSFS := fun w S args x y h => (toValueG_sound (siz (α := List GVal) x + 1)).2 w S args x y h
theorem toRead_callable : callable Try.prog 147 = true := by kernel_rfl
theorem toRead_den (a : GRead) : denF { tt := tt, fs := [toValueFS] } [] Try.f147 toReadFS.ps toReadFS.rs toReadFS.ex a = toRead a := by kernel_rfl
theorem toRead_sound : Sound Try.prog toReadFS :=
  sound_of_den (E := { tt := tt, fs := [toValueFS] }) (.cons toValue_callable toValue_sound (.nil tt_ok)) mixed_ok [] (fn := Try.f147) (by kernel_rfl) fun x => toRead_den x
theorem toReadS_callable : callable Try.prog 111 = true := by kernel_rfl
theorem toReadS_den (a : List GRead) : denF { tt := tt, fs := [toReadFS] } [(3, { n := 23, its := [.t 0 (.ro (.list (.base .read))), .t 3 (.own (.base .read) true true 0), .t 4 (.ro (.base .int))], boxes := [], ptrs := [] })] Try.f111 toReadSFS.ps toReadSFS.rs toReadSFS.ex a = toReadS a := by kernel_rfl
theorem toReadS_sound : Sound Try.prog toReadSFS :=
  sound_of_den (E := { tt := tt, fs := [toReadFS] }) (.cons toRead_callable toRead_sound (.nil tt_ok)) mixed_ok [(3, { n := 23, its := [.t 0 (.ro (.list (.base .read))), .t 3 (.own (.base .read) true true 0), .t 4 (.ro (.base .int))], boxes := [], ptrs := [] })] (fn := Try.f111) (by kernel_rfl) fun x => toReadS_den x
theorem toOp_callable : callable Try.prog 51 = true := by kernel_rfl
theorem toOp_den (a : GOp) : denF { tt := tt, fs := [toIntSFS, toEditFS, toReadSFS] } [] Try.f51 toOpFS.ps toOpFS.rs toOpFS.ex a = toOp a := by kernel_rfl
theorem toOp_sound : Sound Try.prog toOpFS :=
  sound_of_den (E := { tt := tt, fs := [toIntSFS, toEditFS, toReadSFS] }) (.cons toIntS_callable toIntS_sound (.cons toEdit_callable toEdit_sound (.cons toReadS_callable toReadS_sound (.nil tt_ok)))) mixed_ok [] (fn := Try.f51) (by kernel_rfl) fun x => toOp_den x
theorem iOpBefore_callable : callable Try.prog 52 = true := by kernel_rfl
theorem iOpBefore_den (a : GOp) (b : GOp) : denF { tt := tt, fs := [] } [] Try.f52 iOpBeforeFS.ps iOpBeforeFS.rs iOpBeforeFS.ex (a, b) = iOpBefore a b := by kernel_rfl
theorem iOpBefore_sound : Sound Try.prog iOpBeforeFS :=
  sound_of_den (E := { tt := tt, fs := [] }) (.nil tt_ok) mixed_ok [] (fn := Try.f52) (by kernel_rfl) fun x => iOpBefore_den x.1 x.2
theorem eqIntS_callable : callable Try.prog 19 = true := by kernel_rfl
theorem eqIntS_den (a : List Int) (b : List Int) : denF { tt := tt, fs := [] } [(4, { n := 26, its := [.t 0 (.ro (.list (.base .int))), .t 1 (.ro (.list (.base .int))), .t 5 (.ro (.base .int))], boxes := [], ptrs := [] })] Try.f19 eqIntSFS.ps eqIntSFS.rs eqIntSFS.ex (a, b) = eqIntS a b := by kernel_rfl
theorem eqIntS_sound : Sound Try.prog eqIntSFS :=
  sound_of_den (E := { tt := tt, fs := [] }) (.nil tt_ok) mixed_ok [(4, { n := 26, its := [.t 0 (.ro (.list (.base .int))), .t 1 (.ro (.list (.base .int))), .t 5 (.ro (.base .int))], boxes := [], ptrs := [] })] (fn := Try.f19) (by kernel_rfl) fun x => eqIntS_den x.1 x.2
theorem eqStringS_callable : callable Try.prog 181 = true := by kernel_rfl
theorem eqStringS_den (a : List Str) (b : List Str) : denF { tt := tt, fs := [] } [(4, { n := 26, its := [.t 0 (.ro (.list (.base .str))), .t 1 (.ro (.list (.base .str))), .t 5 (.ro (.base .int))], boxes := [], ptrs := [] })] Try.f181 eqStringSFS.ps eqStringSFS.rs eqStringSFS.ex (a, b) = eqStringS a b := by kernel_rfl
theorem eqStringS_sound : Sound Try.prog eqStringSFS :=
  sound_of_den (E := { tt := tt, fs := [] }) (.nil tt_ok) mixed_ok [(4, { n := 26, its := [.t 0 (.ro (.list (.base .str))), .t 1 (.ro (.list (.base .str))), .t 5 (.ro (.base .int))], boxes := [], ptrs := [] })] (fn := Try.f181) (by kernel_rfl) fun x => eqStringS_den x.1 x.2
theorem eqOrigin_callable : callable Try.prog 196 = true := by kernel_rfl
theorem eqOrigin_den (a : GOrigin) (b : GOrigin) : denF { tt := tt, fs := [] } [] Try.f196 eqOriginFS.ps eqOriginFS.rs eqOriginFS.ex (a, b) = eqOrigin a b := by kernel_rfl
theorem eqOrigin_sound : Sound Try.prog eqOriginFS :=
  sound_of_den (E := { tt := tt, fs := [] }) (.nil tt_ok) mixed_ok [] (fn := Try.f196) (by kernel_rfl) fun x => eqOrigin_den x.1 x.2
theorem eqOriginS_callable : callable Try.prog 194 = true := by kernel_rfl
theorem eqOriginS_den (a : List GOrigin) (b : List GOrigin) : denF { tt := tt, fs := [eqOriginFS] } [(4, { n := 27, its := [.t 0 (.ro (.list (.base .origin))), .t 1 (.ro (.list (.base .origin))), .t 5 (.ro (.base .int))], boxes := [], ptrs := [] })] Try.f194 eqOriginSFS.ps eqOriginSFS.rs eqOriginSFS.ex (a, b) = eqOriginS a b := by kernel_rfl
theorem eqOriginS_sound : Sound Try.prog eqOriginSFS :=
  sound_of_den (E := { tt := tt, fs := [eqOriginFS] }) (.cons eqOrigin_callable eqOrigin_sound (.nil tt_ok)) mixed_ok [(4, { n := 27, its := [.t 0 (.ro (.list (.base .origin))), .t 1 (.ro (.list (.base .origin))), .t 5 (.ro (.base .int))], boxes := [], ptrs := [] })] (fn := Try.f194) (by kernel_rfl) fun x => eqOriginS_den x.1 x.2
theorem eqRow_callable : callable Try.prog 191 = true := by kernel_rfl
theorem eqRow_den (a : GRow) (b : GRow) : denF { tt := tt, fs := [eqIntSFS, eqOriginSFS] } [] Try.f191 eqRowFS.ps eqRowFS.rs eqRowFS.ex (a, b) = eqRow a b := by kernel_rfl
theorem eqRow_sound : Sound Try.prog eqRowFS :=
  sound_of_den (E := { tt := tt, fs := [eqIntSFS, eqOriginSFS] }) (.cons eqIntS_callable eqIntS_sound (.cons eqOriginS_callable eqOriginS_sound (.nil tt_ok))) mixed_ok [] (fn := Try.f191) (by kernel_rfl) fun x => eqRow_den x.1 x.2
theorem eqRowS_callable : callable Try.prog 182 = true := by kernel_rfl
theorem eqRowS_den (a : List GRow) (b : List GRow) : denF { tt := tt, fs := [eqRowFS] } [(4, { n := 27, its := [.t 0 (.ro (.list (.base .row))), .t 1 (.ro (.list (.base .row))), .t 5 (.ro (.base .int))], boxes := [], ptrs := [] })] Try.f182 eqRowSFS.ps eqRowSFS.rs eqRowSFS.ex (a, b) = eqRowS a b := by kernel_rfl
theorem eqRowS_sound : Sound Try.prog eqRowSFS :=
  sound_of_den (E := { tt := tt, fs := [eqRowFS] }) (.cons eqRow_callable eqRow_sound (.nil tt_ok)) mixed_ok [(4, { n := 27, its := [.t 0 (.ro (.list (.base .row))), .t 1 (.ro (.list (.base .row))), .t 5 (.ro (.base .int))], boxes := [], ptrs := [] })] (fn := Try.f182) (by kernel_rfl) fun x => eqRowS_den x.1 x.2
theorem eqValue_callable : callable Try.prog 164 = true := by kernel_rfl
theorem eqValueS_callable : callable Try.prog 180 = true := by kernel_rfl
theorem eqValue_den (reqValue : GVal → GVal → Option (Bool)) (reqValueS : (List GVal) → (List GVal) → Option (Bool)) (a : GVal) (b : GVal) : denF { tt := tt, fs := [eqStringSFS, eqRowSFS, { fid := 164, ps := [⟨true, .base .val⟩, ⟨true, .base .val⟩], rs := [⟨false, .base .bool⟩], ex := true, fn := fun x => reqValue x.1 x.2 }, { fid := 180, ps := [⟨false, .list (.base .val)⟩, ⟨false, .list (.base .val)⟩], rs := [⟨false, .base .bool⟩], ex := true, fn := fun x => reqValueS x.1 x.2 }] } [] Try.f164 eqValueFS.ps eqValueFS.rs eqValueFS.ex (a, b) = eqValueB reqValue reqValueS a b := by kernel_rfl
theorem eqValueS_den (reqValue : GVal → GVal → Option (Bool)) (reqValueS : (List GVal) → (List GVal) → Option (Bool)) (a : List GVal) (b : List GVal) : denF { tt := tt, fs := [eqStringSFS, eqRowSFS, { fid := 164, ps := [⟨true, .base .val⟩, ⟨true, .base .val⟩], rs := [⟨false, .base .bool⟩], ex := true, fn := fun x => reqValue x.1 x.2 }, { fid := 180, ps := [⟨false, .list (.base .val)⟩, ⟨false, .list (.base .val)⟩], rs := [⟨false, .base .bool⟩], ex := true, fn := fun x => reqValueS x.1 x.2 }] } [(4, { n := 27, its := [.t 0 (.ro (.list (.base .val))), .t 1 (.ro (.list (.base .val))), .t 5 (.ro (.base .int))], boxes := [], ptrs := [] })] Try.f180 eqValueSFS.ps eqValueSFS.rs eqValueSFS.ex (a, b) = eqValueSB reqValue reqValueS a b := by kernel_rfl
theorem eqValueG_sound : ∀ n, Sound Try.prog (eqValueFSN n) ∧ Sound Try.prog (eqValueSFSN n)
  | 0 => ⟨(fun w S args x y h => by cases h), (fun w S args x y h => by cases h)⟩
  | n + 1 => by
    have ih := eqValueG_sound n
    exact ⟨sound_of_den (s := eqValueFSN (n + 1)) (E := { tt := tt, fs := [eqStringSFS, eqRowSFS, eqValueFSN n, eqValueSFSN n] }) (.cons eqStringS_callable eqStringS_sound (.cons eqRowS_callable eqRowS_sound (.cons eqValue_callable ih.1 (.cons eqValueS_callable ih.2 (.nil tt_ok))))) mixed_ok [] (fn := Try.f164) (by kernel_rfl) fun x => eqValue_den _ _ x.1 x.2, sound_of_den (s := eqValueSFSN (n + 1)) (E := { tt := tt, fs := [eqStringSFS, eqRowSFS, eqValueFSN n, eqValueSFSN n] }) (.cons eqStringS_callable eqStringS_sound (.cons eqRowS_callable eqRowS_sound (.cons eqValue_callable ih.1 (.cons eqValueS_callable ih.2 (.nil tt_ok))))) mixed_ok [(4, { n := 27, its := [.t 0 (.ro (.list (.base .val))), .t 1 (.ro (.list (.base .val))), .t 5 (.ro (.base .int))], boxes := [], ptrs := [] })] (fn := Try.f180) (by kernel_rfl) fun x => eqValueS_den _ _ x.1 x.2⟩
theorem eqValue_sound : Sound Try.prog eqValueFS := fun w S args x y h => (eqValueG_sound (siz (α := GVal) x.1 + siz (α := GVal) x.2 + 1)).1 w S args x y h
theorem eqValueS_sound : Sound Try.prog eqValueSFS := fun w S args x y h => (eqValueG_sound (siz (α := List GVal) x.1 + siz (α := List GVal) x.2 + 1)).2 w S args x y h
theorem eqRead_callable : callable Try.prog 148 = true := by kernel_rfl
theorem eqRead_den (a : GRead) (b : GRead) : denF { tt := tt, fs := [eqValueFS] } [] Try.f148 eqReadFS.ps eqReadFS.rs eqReadFS.ex (a, b) = eqRead a b := by kernel_rfl
theorem eqRead_sound : Sound Try.prog eqReadFS :=
  sound_of_den (E := { tt := tt, fs := [eqValueFS] }) (.cons eqValue_callable eqValue_sound (.nil tt_ok)) mixed_ok [] (fn := Try.f148) (by kernel_rfl) fun x => eqRead_den x.1 x.2
theorem eqReadS_callable : callable Try.prog 113 = true := by kernel_rfl
theorem eqReadS_den (a : List GRead) (b : List GRead) : denF { tt := tt, fs := [eqReadFS] } [(4, { n := 27, its := [.t 0 (.ro (.list (.base .read))), .t 1 (.ro (.list (.base .read))), .t 5 (.ro (.base .int))], boxes := [], ptrs := [] })] Try.f113 eqReadSFS.ps eqReadSFS.rs eqReadSFS.ex (a, b) = eqReadS a b := by kernel_rfl
theorem eqReadS_sound : Sound Try.prog eqReadSFS :=
  sound_of_den (E := { tt := tt, fs := [eqReadFS] }) (.cons eqRead_callable eqRead_sound (.nil tt_ok)) mixed_ok [(4, { n := 27, its := [.t 0 (.ro (.list (.base .read))), .t 1 (.ro (.list (.base .read))), .t 5 (.ro (.base .int))], boxes := [], ptrs := [] })] (fn := Try.f113) (by kernel_rfl) fun x => eqReadS_den x.1 x.2
theorem eqOp_callable : callable Try.prog 53 = true := by kernel_rfl
theorem eqOp_den (a : GOp) (b : GOp) : denF { tt := tt, fs := [eqIntSFS, eqEditFS, eqReadSFS] } [] Try.f53 eqOpFS.ps eqOpFS.rs eqOpFS.ex (a, b) = eqOp a b := by kernel_rfl
theorem eqOp_sound : Sound Try.prog eqOpFS :=
  sound_of_den (E := { tt := tt, fs := [eqIntSFS, eqEditFS, eqReadSFS] }) (.cons eqIntS_callable eqIntS_sound (.cons eqEdit_callable eqEdit_sound (.cons eqReadS_callable eqReadS_sound (.nil tt_ok)))) mixed_ok [] (fn := Try.f53) (by kernel_rfl) fun x => eqOp_den x.1 x.2
theorem FnExactOpBefore_callable : callable Try.prog 8 = true := by kernel_rfl
theorem FnExactOpBefore_den (a : GOp) (b : GOp) : denF { tt := tt, fs := [szOpFS, sOpBeforeFS, toOpFS, iOpBeforeFS, eqOpFS] } [] Try.f8 FnExactOpBeforeFS.ps FnExactOpBeforeFS.rs FnExactOpBeforeFS.ex (a, b) = FnExactOpBefore a b := by kernel_rfl
theorem FnExactOpBefore_sound : Sound Try.prog FnExactOpBeforeFS :=
  sound_of_den (E := { tt := tt, fs := [szOpFS, sOpBeforeFS, toOpFS, iOpBeforeFS, eqOpFS] }) (.cons szOp_callable szOp_sound (.cons sOpBefore_callable sOpBefore_sound (.cons toOp_callable toOp_sound (.cons iOpBefore_callable iOpBefore_sound (.cons eqOp_callable eqOp_sound (.nil tt_ok)))))) mixed_ok [] (fn := Try.f8) (by kernel_rfl) fun x => FnExactOpBefore_den x.1 x.2
theorem sStampVersion_callable : callable Try.prog 54 = true := by kernel_rfl
theorem sStampVersion_den (a : GOp) : denF { tt := tt, fs := [] } [] Try.f54 sStampVersionFS.ps sStampVersionFS.rs sStampVersionFS.ex a = sStampVersion a := by kernel_rfl
theorem sStampVersion_sound : Sound Try.prog sStampVersionFS :=
  sound_of_den (E := { tt := tt, fs := [] }) (.nil tt_ok) mixed_ok [] (fn := Try.f54) (by kernel_rfl) fun x => sStampVersion_den x
theorem iStampVersion_callable : callable Try.prog 55 = true := by kernel_rfl
theorem iStampVersion_den (a : GOp) : denF { tt := tt, fs := [] } [] Try.f55 iStampVersionFS.ps iStampVersionFS.rs iStampVersionFS.ex a = iStampVersion a := by kernel_rfl
theorem iStampVersion_sound : Sound Try.prog iStampVersionFS :=
  sound_of_den (E := { tt := tt, fs := [] }) (.nil tt_ok) mixed_ok [] (fn := Try.f55) (by kernel_rfl) fun x => iStampVersion_den x
theorem FnExactStampVersion_callable : callable Try.prog 9 = true := by kernel_rfl
theorem FnExactStampVersion_den (a : GOp) : denF { tt := tt, fs := [szOpFS, toOpFS, eqOpFS, sStampVersionFS, iStampVersionFS] } [] Try.f9 FnExactStampVersionFS.ps FnExactStampVersionFS.rs FnExactStampVersionFS.ex a = FnExactStampVersion a := by kernel_rfl
theorem FnExactStampVersion_sound : Sound Try.prog FnExactStampVersionFS :=
  sound_of_den (E := { tt := tt, fs := [szOpFS, toOpFS, eqOpFS, sStampVersionFS, iStampVersionFS] }) (.cons szOp_callable szOp_sound (.cons toOp_callable toOp_sound (.cons eqOp_callable eqOp_sound (.cons sStampVersion_callable sStampVersion_sound (.cons iStampVersion_callable iStampVersion_sound (.nil tt_ok)))))) mixed_ok [] (fn := Try.f9) (by kernel_rfl) fun x => FnExactStampVersion_den x
theorem sL41Seen_callable : callable Try.prog 119 = true := by kernel_rfl
theorem sL41Seen_den (a : List Int) : denF { tt := tt, fs := [sL1InFS] } [(2, { n := 19, its := [.t 0 (.ro (.list (.base .int))), .t 3 (.ro (.base .int))], boxes := [], ptrs := [] })] Try.f119 sL41SeenFS.ps sL41SeenFS.rs sL41SeenFS.ex a = sL41Seen a := by kernel_rfl
theorem sL41Seen_sound : Sound Try.prog sL41SeenFS :=
  sound_of_den (E := { tt := tt, fs := [sL1InFS] }) (.cons sL1In_callable sL1In_sound (.nil tt_ok)) mixed_ok [(2, { n := 19, its := [.t 0 (.ro (.list (.base .int))), .t 3 (.ro (.base .int))], boxes := [], ptrs := [] })] (fn := Try.f119) (by kernel_rfl) fun x => sL41Seen_den x
theorem sIsValidOp_callable : callable Try.prog 60 = true := by kernel_rfl
theorem sIsValidOp_den (a : GOp) : denF { tt := tt, fs := [sL1InFS, sL41SeenFS] } [] Try.f60 sIsValidOpFS.ps sIsValidOpFS.rs sIsValidOpFS.ex a = sIsValidOp a := by kernel_rfl
theorem sIsValidOp_sound : Sound Try.prog sIsValidOpFS :=
  sound_of_den (E := { tt := tt, fs := [sL1InFS, sL41SeenFS] }) (.cons sL1In_callable sL1In_sound (.cons sL41Seen_callable sL41Seen_sound (.nil tt_ok))) mixed_ok [] (fn := Try.f60) (by kernel_rfl) fun x => sIsValidOp_den x
theorem iIsValidOp_callable : callable Try.prog 61 = true := by kernel_rfl
theorem iIsValidOp_den (a : GOp) : denF { tt := tt, fs := [iWithinFS] } [(4, { n := 81, its := [.b 1 0 (.ro (.base .int)), .b 1 1 (.ro (.base .int)), .b 1 2 (.ro (.base .int)), .b 1 3 (.ro (.list (.base .int))), .b 1 4 (.ro (.base .int)), .b 1 5 (.ro (.base .int)), .b 1 6 (.ro (.base .int)), .b 1 7 (.ro (.base .int)), .b 1 8 (.ro (.base .int)), .b 1 9 (.ro (.base .str)), .b 1 10 (.ro (.base .str)), .b 1 11 (.ro (.base .int)), .b 1 12 (.ro (.base .str)), .b 1 13 (.ro (.base .str)), .b 1 14 (.ro (.base .int)), .b 1 15 (.ro (.base .int)), .b 1 16 (.ro (.list (.base .read))), .t 25 (.ro (.list (.base .int))), .t 26 (.ro (.base .int)), .t 27 (.ro (.base .int))], boxes := [(1, 17)], ptrs := [(1, 1, 0)] })] Try.f61 iIsValidOpFS.ps iIsValidOpFS.rs iIsValidOpFS.ex a = iIsValidOp a := by kernel_rfl
theorem iIsValidOp_sound : Sound Try.prog iIsValidOpFS :=
  sound_of_den (E := { tt := tt, fs := [iWithinFS] }) (.cons iWithin_callable iWithin_sound (.nil tt_ok)) mixed_ok [(4, { n := 81, its := [.b 1 0 (.ro (.base .int)), .b 1 1 (.ro (.base .int)), .b 1 2 (.ro (.base .int)), .b 1 3 (.ro (.list (.base .int))), .b 1 4 (.ro (.base .int)), .b 1 5 (.ro (.base .int)), .b 1 6 (.ro (.base .int)), .b 1 7 (.ro (.base .int)), .b 1 8 (.ro (.base .int)), .b 1 9 (.ro (.base .str)), .b 1 10 (.ro (.base .str)), .b 1 11 (.ro (.base .int)), .b 1 12 (.ro (.base .str)), .b 1 13 (.ro (.base .str)), .b 1 14 (.ro (.base .int)), .b 1 15 (.ro (.base .int)), .b 1 16 (.ro (.list (.base .read))), .t 25 (.ro (.list (.base .int))), .t 26 (.ro (.base .int)), .t 27 (.ro (.base .int))], boxes := [(1, 17)], ptrs := [(1, 1, 0)] })] (fn := Try.f61) (by kernel_rfl) fun x => iIsValidOp_den x
theorem FnExactIsValidOp_callable : callable Try.prog 11 = true := by kernel_rfl
theorem FnExactIsValidOp_den (a : GOp) : denF { tt := tt, fs := [szOpFS, toOpFS, eqOpFS, sIsValidOpFS, iIsValidOpFS] } [] Try.f11 FnExactIsValidOpFS.ps FnExactIsValidOpFS.rs FnExactIsValidOpFS.ex a = FnExactIsValidOp a := by kernel_rfl
theorem FnExactIsValidOp_sound : Sound Try.prog FnExactIsValidOpFS :=
  sound_of_den (E := { tt := tt, fs := [szOpFS, toOpFS, eqOpFS, sIsValidOpFS, iIsValidOpFS] }) (.cons szOp_callable szOp_sound (.cons toOp_callable toOp_sound (.cons eqOp_callable eqOp_sound (.cons sIsValidOp_callable sIsValidOp_sound (.cons iIsValidOp_callable iIsValidOp_sound (.nil tt_ok)))))) mixed_ok [] (fn := Try.f11) (by kernel_rfl) fun x => FnExactIsValidOp_den x
theorem szOpS_callable : callable Try.prog 62 = true := by kernel_rfl
theorem szOpS_den (a : List GOp) (b : Int) : denF { tt := tt, fs := [szOpFS] } [(5, { n := 27, its := [.t 0 (.ro (.list (.base .op))), .t 1 (.ro (.base .int)), .t 5 (.ro (.base .int))], boxes := [], ptrs := [] })] Try.f62 szOpSFS.ps szOpSFS.rs szOpSFS.ex (a, b) = szOpS a b := by kernel_rfl
theorem szOpS_sound : Sound Try.prog szOpSFS :=
  sound_of_den (E := { tt := tt, fs := [szOpFS] }) (.cons szOp_callable szOp_sound (.nil tt_ok)) mixed_ok [(5, { n := 27, its := [.t 0 (.ro (.list (.base .op))), .t 1 (.ro (.base .int)), .t 5 (.ro (.base .int))], boxes := [], ptrs := [] })] (fn := Try.f62) (by kernel_rfl) fun x => szOpS_den x.1 x.2
theorem sCountBy_callable : callable Try.prog 63 = true := by kernel_rfl
theorem sCountBy_den (a : List GOp) (b : Int) : denF { tt := tt, fs := [] } [(3, { n := 23, its := [.t 0 (.ro (.list (.base .op))), .t 1 (.ro (.base .int)), .t 5 (.ro (.base .int)), .t 6 (.ro (.base .int))], boxes := [], ptrs := [] })] Try.f63 sCountByFS.ps sCountByFS.rs sCountByFS.ex (a, b) = sCountBy a b := by kernel_rfl
theorem sCountBy_sound : Sound Try.prog sCountByFS :=
  sound_of_den (E := { tt := tt, fs := [] }) (.nil tt_ok) mixed_ok [(3, { n := 23, its := [.t 0 (.ro (.list (.base .op))), .t 1 (.ro (.base .int)), .t 5 (.ro (.base .int)), .t 6 (.ro (.base .int))], boxes := [], ptrs := [] })] (fn := Try.f63) (by kernel_rfl) fun x => sCountBy_den x.1 x.2
end Go.Proofs.Ytdjpggeakgdmmaa
