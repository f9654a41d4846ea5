/- The functions compute their models, by gen.py. -/
import Derived.Test.YtijhfajcbmpndaaDen0
namespace Go.Proofs.Ytijhfajcbmpndaa
open Go.Abs Go.Proofs
set_option maxRecDepth 100000
theorem toValueS_callable : callable Try.prog 79 = true := by kernel_rfl
theorem toValue_den (rtoValue : GVal → Option (GVal)) (rtoValueS : (List GVal) → Option ((List GVal))) (a : GVal) : denF { tt := tt, fs := [toStringSFS, toRowSFS, { fid := 70, ps := [⟨true, .base .val⟩], rs := [⟨true, .base .val⟩], ex := true, fn := fun x => rtoValue x }, { fid := 79, ps := [⟨false, .list (.base .val)⟩], rs := [⟨false, .list (.base .val)⟩], ex := true, fn := fun x => rtoValueS x }] } [] Try.f70 toValueFS.ps toValueFS.rs toValueFS.ex a = toValueB rtoValue rtoValueS a := by kernel_rfl
theorem toValueS_den (rtoValue : GVal → Option (GVal)) (rtoValueS : (List GVal) → Option ((List GVal))) (a : List GVal) : denF { tt := tt, fs := [toStringSFS, toRowSFS, { fid := 70, ps := [⟨true, .base .val⟩], rs := [⟨true, .base .val⟩], ex := true, fn := fun x => rtoValue x }, { fid := 79, ps := [⟨false, .list (.base .val)⟩], rs := [⟨false, .list (.base .val)⟩], ex := true, fn := fun x => rtoValueS x }] } [(3, { n := 23, its := [.t 0 (.ro (.list (.base .val))), .t 3 (.own (.base .val) true true 0), .t 4 (.ro (.base .int))], boxes := [], ptrs := [] })] Try.f79 toValueSFS.ps toValueSFS.rs toValueSFS.ex a = toValueSB rtoValue rtoValueS a := by kernel_rfl
theorem toValueG_sound : ∀ n, Sound Try.prog (toValueFSN n) ∧ Sound Try.prog (toValueSFSN n)
  | 0 => ⟨(fun w S args x y h => by cases h), (fun w S args x y h => by cases h)⟩
  | n + 1 => by
    have ih := toValueG_sound n
    exact ⟨sound_of_den (s := toValueFSN (n + 1)) (E := { tt := tt, fs := [toStringSFS, toRowSFS, toValueFSN n, toValueSFSN n] }) (.cons toStringS_callable toStringS_sound (.cons toRowS_callable toRowS_sound (.cons toValue_callable ih.1 (.cons toValueS_callable ih.2 (.nil tt_ok))))) mixed_ok [] (fn := Try.f70) (by kernel_rfl) fun x => toValue_den _ _ x, sound_of_den (s := toValueSFSN (n + 1)) (E := { tt := tt, fs := [toStringSFS, toRowSFS, toValueFSN n, toValueSFSN n] }) (.cons toStringS_callable toStringS_sound (.cons toRowS_callable toRowS_sound (.cons toValue_callable ih.1 (.cons toValueS_callable ih.2 (.nil tt_ok))))) mixed_ok [(3, { n := 23, its := [.t 0 (.ro (.list (.base .val))), .t 3 (.own (.base .val) true true 0), .t 4 (.ro (.base .int))], boxes := [], ptrs := [] })] (fn := Try.f79) (by kernel_rfl) fun x => toValueS_den _ _ x⟩
theorem toValue_sound : Sound Try.prog toValueFS := fun w S args x y h => (toValueG_sound (siz (α := GVal) x + 1)).1 w S args x y h
theorem toValueS_sound : Sound Try.prog toValueSFS := fun w S args x y h => (toValueG_sound (siz (α := List GVal) x + 1)).2 w S args x y h
theorem toRead_callable : callable Try.prog 51 = true := by kernel_rfl
theorem toRead_den (a : GRead) : denF { tt := tt, fs := [toValueFS] } [] Try.f51 toReadFS.ps toReadFS.rs toReadFS.ex a = toRead a := by kernel_rfl
theorem toRead_sound : Sound Try.prog toReadFS :=
  sound_of_den (E := { tt := tt, fs := [toValueFS] }) (.cons toValue_callable toValue_sound (.nil tt_ok)) mixed_ok [] (fn := Try.f51) (by kernel_rfl) fun x => toRead_den x
theorem toReadS_callable : callable Try.prog 32 = true := by kernel_rfl
theorem toReadS_den (a : List GRead) : denF { tt := tt, fs := [toReadFS] } [(3, { n := 23, its := [.t 0 (.ro (.list (.base .read))), .t 3 (.own (.base .read) true true 0), .t 4 (.ro (.base .int))], boxes := [], ptrs := [] })] Try.f32 toReadSFS.ps toReadSFS.rs toReadSFS.ex a = toReadS a := by kernel_rfl
theorem toReadS_sound : Sound Try.prog toReadSFS :=
  sound_of_den (E := { tt := tt, fs := [toReadFS] }) (.cons toRead_callable toRead_sound (.nil tt_ok)) mixed_ok [(3, { n := 23, its := [.t 0 (.ro (.list (.base .read))), .t 3 (.own (.base .read) true true 0), .t 4 (.ro (.base .int))], boxes := [], ptrs := [] })] (fn := Try.f32) (by kernel_rfl) fun x => toReadS_den x
theorem toOp_callable : callable Try.prog 15 = true := by kernel_rfl
theorem toOp_den (a : GOp) : denF { tt := tt, fs := [toIntSFS, toEditFS, toReadSFS] } [] Try.f15 toOpFS.ps toOpFS.rs toOpFS.ex a = toOp a := by kernel_rfl
theorem toOp_sound : Sound Try.prog toOpFS :=
  sound_of_den (E := { tt := tt, fs := [toIntSFS, toEditFS, toReadSFS] }) (.cons toIntS_callable toIntS_sound (.cons toEdit_callable toEdit_sound (.cons toReadS_callable toReadS_sound (.nil tt_ok)))) mixed_ok [] (fn := Try.f15) (by kernel_rfl) fun x => toOp_den x
theorem toOpS_callable : callable Try.prog 6 = true := by kernel_rfl
theorem toOpS_den (a : List GOp) : denF { tt := tt, fs := [toOpFS] } [(3, { n := 23, its := [.t 0 (.ro (.list (.base .op))), .t 3 (.own (.base .op) true true 0), .t 4 (.ro (.base .int))], boxes := [], ptrs := [] })] Try.f6 toOpSFS.ps toOpSFS.rs toOpSFS.ex a = toOpS a := by kernel_rfl
theorem toOpS_sound : Sound Try.prog toOpSFS :=
  sound_of_den (E := { tt := tt, fs := [toOpFS] }) (.cons toOp_callable toOp_sound (.nil tt_ok)) mixed_ok [(3, { n := 23, its := [.t 0 (.ro (.list (.base .op))), .t 3 (.own (.base .op) true true 0), .t 4 (.ro (.base .int))], boxes := [], ptrs := [] })] (fn := Try.f6) (by kernel_rfl) fun x => toOpS_den x
theorem iCopyRow_callable : callable Try.prog 72 = true := by kernel_rfl
theorem iCopyRow_den (a : GRow) : denF { tt := tt, fs := [] } [] Try.f72 iCopyRowFS.ps iCopyRowFS.rs iCopyRowFS.ex a = iCopyRow a := by kernel_rfl
theorem iCopyRow_sound : Sound Try.prog iCopyRowFS :=
  sound_of_den (E := { tt := tt, fs := [] }) (.nil tt_ok) mixed_ok [] (fn := Try.f72) (by kernel_rfl) fun x => iCopyRow_den x
theorem iCopyValue_callable : callable Try.prog 52 = true := by kernel_rfl
theorem iCopyValues_callable : callable Try.prog 71 = true := by kernel_rfl
theorem iCopyValue_den (riCopyValue : GVal → Option (GVal)) (riCopyValues : (List GVal) → Option ((List GVal))) (a : GVal) : denF { tt := tt, fs := [iCopyRowFS, { fid := 52, ps := [⟨true, .base .val⟩], rs := [⟨true, .base .val⟩], ex := true, fn := fun x => riCopyValue x }, { fid := 71, ps := [⟨false, .list (.base .val)⟩], rs := [⟨false, .list (.base .val)⟩], ex := true, fn := fun x => riCopyValues x }] } [(6, { n := 33, its := [.b 2 0 (.ro (.base .int)), .b 2 1 (.ro (.base .int)), .b 2 2 (.ro (.base .int)), .b 2 3 (.ro (.base .str)), .b 2 4 (.own (.base .val) true true 0), .b 2 5 (.own (.base .str) true true 4), .b 2 6 (.own (.base .row) true true 6), .b 3 0 (.ro (.base .int)), .b 3 1 (.ro (.base .int)), .b 3 2 (.ro (.base .int)), .b 3 3 (.ro (.base .str)), .b 3 4 (.own (.base .val) true true 7), .b 3 5 (.own (.base .str) true true 8), .b 3 6 (.own (.base .row) true true 10), .t 18 (.ro (.list (.base .row))), .t 19 (.ro (.base .int)), .t 20 (.ro (.base .int))], boxes := [(2, 7), (3, 7)], ptrs := [(2, 2, 0), (3, 3, 0)] })] Try.f52 iCopyValueFS.ps iCopyValueFS.rs iCopyValueFS.ex a = iCopyValueB riCopyValue riCopyValues a := by kernel_rfl
theorem iCopyValues_den (riCopyValue : GVal → Option (GVal)) (riCopyValues : (List GVal) → Option ((List GVal))) (a : List GVal) : denF { tt := tt, fs := [iCopyRowFS, { fid := 52, ps := [⟨true, .base .val⟩], rs := [⟨true, .base .val⟩], ex := true, fn := fun x => riCopyValue x }, { fid := 71, ps := [⟨false, .list (.base .val)⟩], rs := [⟨false, .list (.base .val)⟩], ex := true, fn := fun x => riCopyValues x }] } [(3, { n := 20, its := [.t 3 (.own (.base .val) true true 0), .t 7 (.ro (.list (.base .val))), .t 8 (.ro (.base .int)), .t 9 (.ro (.base .int))], boxes := [], ptrs := [] })] Try.f71 iCopyValuesFS.ps iCopyValuesFS.rs iCopyValuesFS.ex a = iCopyValuesB riCopyValue riCopyValues a := by kernel_rfl
theorem iCopyValueG_sound : ∀ n, Sound Try.prog (iCopyValueFSN n) ∧ Sound Try.prog (iCopyValuesFSN n)
  | 0 => ⟨(fun w S args x y h => by cases h), (fun w S args x y h => by cases h)⟩
  | n + 1 => by
    have ih := iCopyValueG_sound n
    exact ⟨sound_of_den (s := iCopyValueFSN (n + 1)) (E := { tt := tt, fs := [iCopyRowFS, iCopyValueFSN n, iCopyValuesFSN n] }) (.cons iCopyRow_callable iCopyRow_sound (.cons iCopyValue_callable ih.1 (.cons iCopyValues_callable ih.2 (.nil tt_ok)))) mixed_ok [(6, { n := 33, its := [.b 2 0 (.ro (.base .int)), .b 2 1 (.ro (.base .int)), .b 2 2 (.ro (.base .int)), .b 2 3 (.ro (.base .str)), .b 2 4 (.own (.base .val) true true 0), .b 2 5 (.own (.base .str) true true 4), .b 2 6 (.own (.base .row) true true 6), .b 3 0 (.ro (.base .int)), .b 3 1 (.ro (.base .int)), .b 3 2 (.ro (.base .int)), .b 3 3 (.ro (.base .str)), .b 3 4 (.own (.base .val) true true 7), .b 3 5 (.own (.base .str) true true 8), .b 3 6 (.own (.base .row) true true 10), .t 18 (.ro (.list (.base .row))), .t 19 (.ro (.base .int)), .t 20 (.ro (.base .int))], boxes := [(2, 7), (3, 7)], ptrs := [(2, 2, 0), (3, 3, 0)] })] (fn := Try.f52) (by kernel_rfl) fun x => iCopyValue_den _ _ x, sound_of_den (s := iCopyValuesFSN (n + 1)) (E := { tt := tt, fs := [iCopyRowFS, iCopyValueFSN n, iCopyValuesFSN n] }) (.cons iCopyRow_callable iCopyRow_sound (.cons iCopyValue_callable ih.1 (.cons iCopyValues_callable ih.2 (.nil tt_ok)))) mixed_ok [(3, { n := 20, its := [.t 3 (.own (.base .val) true true 0), .t 7 (.ro (.list (.base .val))), .t 8 (.ro (.base .int)), .t 9 (.ro (.base .int))], boxes := [], ptrs := [] })] (fn := Try.f71) (by kernel_rfl) fun x => iCopyValues_den _ _ x⟩
theorem iCopyValue_sound : Sound Try.prog iCopyValueFS := fun w S args x y h => (iCopyValueG_sound (siz (α := GVal) x + 1)).1 w S args x y h
theorem iCopyValues_sound : Sound Try.prog iCopyValuesFS := fun w S args x y h => (iCopyValueG_sound (siz (α := List GVal) x + 1)).2 w S args x y h
theorem iCopyReads_callable : callable Try.prog 33 = true := by kernel_rfl
theorem iCopyReads_den (a : List GRead) : denF { tt := tt, fs := [iCopyValueFS] } [(3, { n := 23, its := [.t 3 (.own (.base .read) true true 0), .t 7 (.ro (.list (.base .read))), .t 8 (.ro (.base .int)), .t 9 (.ro (.base .int))], boxes := [], ptrs := [] })] Try.f33 iCopyReadsFS.ps iCopyReadsFS.rs iCopyReadsFS.ex a = iCopyReads a := by kernel_rfl
theorem iCopyReads_sound : Sound Try.prog iCopyReadsFS :=
  sound_of_den (E := { tt := tt, fs := [iCopyValueFS] }) (.cons iCopyValue_callable iCopyValue_sound (.nil tt_ok)) mixed_ok [(3, { n := 23, its := [.t 3 (.own (.base .read) true true 0), .t 7 (.ro (.list (.base .read))), .t 8 (.ro (.base .int)), .t 9 (.ro (.base .int))], boxes := [], ptrs := [] })] (fn := Try.f33) (by kernel_rfl) fun x => iCopyReads_den x
theorem iCopyOp_callable : callable Try.prog 16 = true := by kernel_rfl
theorem iCopyOp_den (a : GOp) : denF { tt := tt, fs := [iCopyReadsFS] } [] Try.f16 iCopyOpFS.ps iCopyOpFS.rs iCopyOpFS.ex a = iCopyOp a := by kernel_rfl
theorem iCopyOp_sound : Sound Try.prog iCopyOpFS :=
  sound_of_den (E := { tt := tt, fs := [iCopyReadsFS] }) (.cons iCopyReads_callable iCopyReads_sound (.nil tt_ok)) mixed_ok [] (fn := Try.f16) (by kernel_rfl) fun x => iCopyOp_den x
theorem iOpBefore_callable : callable Try.prog 19 = true := by kernel_rfl
theorem iOpBefore_den (a : GOp) (b : GOp) : denF { tt := tt, fs := [] } [] Try.f19 iOpBeforeFS.ps iOpBeforeFS.rs iOpBeforeFS.ex (a, b) = iOpBefore a b := by kernel_rfl
theorem iOpBefore_sound : Sound Try.prog iOpBeforeFS :=
  sound_of_den (E := { tt := tt, fs := [] }) (.nil tt_ok) mixed_ok [] (fn := Try.f19) (by kernel_rfl) fun x => iOpBefore_den x.1 x.2
end Go.Proofs.Ytijhfajcbmpndaa
