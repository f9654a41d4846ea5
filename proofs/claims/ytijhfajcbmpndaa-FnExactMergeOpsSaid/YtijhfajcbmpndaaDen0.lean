/- The functions compute their models, by gen.py. -/
import Derived.Test.YtijhfajcbmpndaaEnvs
namespace Go.Proofs.Ytijhfajcbmpndaa
open Go.Abs Go.Proofs
set_option maxRecDepth 100000
theorem szIntS_callable : callable Try.prog 26 = true := by kernel_rfl
theorem szIntS_den (a : List Int) (b : Int) : denF { tt := tt, fs := [] } [] Try.f26 szIntSFS.ps szIntSFS.rs szIntSFS.ex (a, b) = szIntS a b := by kernel_rfl
theorem szIntS_sound : Sound Try.prog szIntSFS :=
  sound_of_den (E := { tt := tt, fs := [] }) (.nil tt_ok) mixed_ok [] (fn := Try.f26) (by kernel_rfl) fun x => szIntS_den x.1 x.2
theorem szCell_callable : callable Try.prog 47 = true := by kernel_rfl
theorem szCell_den (a : GCell) (b : Int) : denF { tt := tt, fs := [] } [] Try.f47 szCellFS.ps szCellFS.rs szCellFS.ex (a, b) = szCell a b := by kernel_rfl
theorem szCell_sound : Sound Try.prog szCellFS :=
  sound_of_den (E := { tt := tt, fs := [] }) (.nil tt_ok) mixed_ok [] (fn := Try.f47) (by kernel_rfl) fun x => szCell_den x.1 x.2
theorem szEdit_callable : callable Try.prog 27 = true := by kernel_rfl
theorem szEdit_den (a : GEdit) (b : Int) : denF { tt := tt, fs := [szCellFS] } [] Try.f27 szEditFS.ps szEditFS.rs szEditFS.ex (a, b) = szEdit a b := by kernel_rfl
theorem szEdit_sound : Sound Try.prog szEditFS :=
  sound_of_den (E := { tt := tt, fs := [szCellFS] }) (.cons szCell_callable szCell_sound (.nil tt_ok)) mixed_ok [] (fn := Try.f27) (by kernel_rfl) fun x => szEdit_den x.1 x.2
theorem szStringS_callable : callable Try.prog 76 = true := by kernel_rfl
theorem szStringS_den (a : List Str) (b : Int) : denF { tt := tt, fs := [] } [(5, { n := 28, its := [.t 0 (.ro (.list (.base .str))), .t 1 (.ro (.base .int)), .t 5 (.ro (.base .int))], boxes := [], ptrs := [] })] Try.f76 szStringSFS.ps szStringSFS.rs szStringSFS.ex (a, b) = szStringS a b := by kernel_rfl
theorem szStringS_sound : Sound Try.prog szStringSFS :=
  sound_of_den (E := { tt := tt, fs := [] }) (.nil tt_ok) mixed_ok [(5, { n := 28, its := [.t 0 (.ro (.list (.base .str))), .t 1 (.ro (.base .int)), .t 5 (.ro (.base .int))], boxes := [], ptrs := [] })] (fn := Try.f76) (by kernel_rfl) fun x => szStringS_den x.1 x.2
theorem szOriginS_callable : callable Try.prog 89 = true := by kernel_rfl
theorem szOriginS_den (a : List GOrigin) (b : Int) : denF { tt := tt, fs := [] } [] Try.f89 szOriginSFS.ps szOriginSFS.rs szOriginSFS.ex (a, b) = szOriginS a b := by kernel_rfl
theorem szOriginS_sound : Sound Try.prog szOriginSFS :=
  sound_of_den (E := { tt := tt, fs := [] }) (.nil tt_ok) mixed_ok [] (fn := Try.f89) (by kernel_rfl) fun x => szOriginS_den x.1 x.2
theorem szRow_callable : callable Try.prog 86 = true := by kernel_rfl
theorem szRow_den (a : GRow) (b : Int) : denF { tt := tt, fs := [szIntSFS, szOriginSFS] } [] Try.f86 szRowFS.ps szRowFS.rs szRowFS.ex (a, b) = szRow a b := by kernel_rfl
theorem szRow_sound : Sound Try.prog szRowFS :=
  sound_of_den (E := { tt := tt, fs := [szIntSFS, szOriginSFS] }) (.cons szIntS_callable szIntS_sound (.cons szOriginS_callable szOriginS_sound (.nil tt_ok))) mixed_ok [] (fn := Try.f86) (by kernel_rfl) fun x => szRow_den x.1 x.2
theorem szRowS_callable : callable Try.prog 77 = true := by kernel_rfl
theorem szRowS_den (a : List GRow) (b : Int) : denF { tt := tt, fs := [szRowFS] } [(5, { n := 27, its := [.t 0 (.ro (.list (.base .row))), .t 1 (.ro (.base .int)), .t 5 (.ro (.base .int))], boxes := [], ptrs := [] })] Try.f77 szRowSFS.ps szRowSFS.rs szRowSFS.ex (a, b) = szRowS a b := by kernel_rfl
theorem szRowS_sound : Sound Try.prog szRowSFS :=
  sound_of_den (E := { tt := tt, fs := [szRowFS] }) (.cons szRow_callable szRow_sound (.nil tt_ok)) mixed_ok [(5, { n := 27, its := [.t 0 (.ro (.list (.base .row))), .t 1 (.ro (.base .int)), .t 5 (.ro (.base .int))], boxes := [], ptrs := [] })] (fn := Try.f77) (by kernel_rfl) fun x => szRowS_den x.1 x.2
theorem szValue_callable : callable Try.prog 68 = true := by kernel_rfl
theorem szValueS_callable : callable Try.prog 75 = true := by kernel_rfl
theorem szValue_den (rszValue : GVal → Int → Option (Int)) (rszValueS : (List GVal) → Int → Option (Int)) (a : GVal) (b : Int) : denF { tt := tt, fs := [szStringSFS, szRowSFS, { fid := 68, ps := [⟨true, .base .val⟩, ⟨false, .base .int⟩], rs := [⟨false, .base .int⟩], ex := true, fn := fun x => rszValue x.1 x.2 }, { fid := 75, ps := [⟨false, .list (.base .val)⟩, ⟨false, .base .int⟩], rs := [⟨false, .base .int⟩], ex := true, fn := fun x => rszValueS x.1 x.2 }] } [] Try.f68 szValueFS.ps szValueFS.rs szValueFS.ex (a, b) = szValueB rszValue rszValueS a b := by kernel_rfl
theorem szValueS_den (rszValue : GVal → Int → Option (Int)) (rszValueS : (List GVal) → Int → Option (Int)) (a : List GVal) (b : Int) : denF { tt := tt, fs := [szStringSFS, szRowSFS, { fid := 68, ps := [⟨true, .base .val⟩, ⟨false, .base .int⟩], rs := [⟨false, .base .int⟩], ex := true, fn := fun x => rszValue x.1 x.2 }, { fid := 75, ps := [⟨false, .list (.base .val)⟩, ⟨false, .base .int⟩], rs := [⟨false, .base .int⟩], ex := true, fn := fun x => rszValueS x.1 x.2 }] } [(5, { n := 27, its := [.t 0 (.ro (.list (.base .val))), .t 1 (.ro (.base .int)), .t 5 (.ro (.base .int))], boxes := [], ptrs := [] })] Try.f75 szValueSFS.ps szValueSFS.rs szValueSFS.ex (a, b) = szValueSB rszValue rszValueS a b := by kernel_rfl
theorem szValueG_sound : ∀ n, Sound Try.prog (szValueFSN n) ∧ Sound Try.prog (szValueSFSN n)
  | 0 => ⟨(fun w S args x y h => by cases h), (fun w S args x y h => by cases h)⟩
  | n + 1 => by
    have ih := szValueG_sound n
    exact ⟨sound_of_den (s := szValueFSN (n + 1)) (E := { tt := tt, fs := [szStringSFS, szRowSFS, szValueFSN n, szValueSFSN n] }) (.cons szStringS_callable szStringS_sound (.cons szRowS_callable szRowS_sound (.cons szValue_callable ih.1 (.cons szValueS_callable ih.2 (.nil tt_ok))))) mixed_ok [] (fn := Try.f68) (by kernel_rfl) fun x => szValue_den _ _ x.1 x.2, sound_of_den (s := szValueSFSN (n + 1)) (E := { tt := tt, fs := [szStringSFS, szRowSFS, szValueFSN n, szValueSFSN n] }) (.cons szStringS_callable szStringS_sound (.cons szRowS_callable szRowS_sound (.cons szValue_callable ih.1 (.cons szValueS_callable ih.2 (.nil tt_ok))))) mixed_ok [(5, { n := 27, its := [.t 0 (.ro (.list (.base .val))), .t 1 (.ro (.base .int)), .t 5 (.ro (.base .int))], boxes := [], ptrs := [] })] (fn := Try.f75) (by kernel_rfl) fun x => szValueS_den _ _ x.1 x.2⟩
theorem szValue_sound : Sound Try.prog szValueFS := fun w S args x y h => (szValueG_sound (siz (α := GVal) x.1 + 1)).1 w S args x y h
theorem szValueS_sound : Sound Try.prog szValueSFS := fun w S args x y h => (szValueG_sound (siz (α := List GVal) x.1 + 1)).2 w S args x y h
theorem szRead_callable : callable Try.prog 48 = true := by kernel_rfl
theorem szRead_den (a : GRead) (b : Int) : denF { tt := tt, fs := [szValueFS] } [] Try.f48 szReadFS.ps szReadFS.rs szReadFS.ex (a, b) = szRead a b := by kernel_rfl
theorem szRead_sound : Sound Try.prog szReadFS :=
  sound_of_den (E := { tt := tt, fs := [szValueFS] }) (.cons szValue_callable szValue_sound (.nil tt_ok)) mixed_ok [] (fn := Try.f48) (by kernel_rfl) fun x => szRead_den x.1 x.2
theorem szReadS_callable : callable Try.prog 28 = true := by kernel_rfl
theorem szReadS_den (a : List GRead) (b : Int) : denF { tt := tt, fs := [szReadFS] } [(5, { n := 27, its := [.t 0 (.ro (.list (.base .read))), .t 1 (.ro (.base .int)), .t 5 (.ro (.base .int))], boxes := [], ptrs := [] })] Try.f28 szReadSFS.ps szReadSFS.rs szReadSFS.ex (a, b) = szReadS a b := by kernel_rfl
theorem szReadS_sound : Sound Try.prog szReadSFS :=
  sound_of_den (E := { tt := tt, fs := [szReadFS] }) (.cons szRead_callable szRead_sound (.nil tt_ok)) mixed_ok [(5, { n := 27, its := [.t 0 (.ro (.list (.base .read))), .t 1 (.ro (.base .int)), .t 5 (.ro (.base .int))], boxes := [], ptrs := [] })] (fn := Try.f28) (by kernel_rfl) fun x => szReadS_den x.1 x.2
theorem szOp_callable : callable Try.prog 11 = true := by kernel_rfl
theorem szOp_den (a : GOp) (b : Int) : denF { tt := tt, fs := [szIntSFS, szEditFS, szReadSFS] } [] Try.f11 szOpFS.ps szOpFS.rs szOpFS.ex (a, b) = szOp a b := by kernel_rfl
theorem szOp_sound : Sound Try.prog szOpFS :=
  sound_of_den (E := { tt := tt, fs := [szIntSFS, szEditFS, szReadSFS] }) (.cons szIntS_callable szIntS_sound (.cons szEdit_callable szEdit_sound (.cons szReadS_callable szReadS_sound (.nil tt_ok)))) mixed_ok [] (fn := Try.f11) (by kernel_rfl) fun x => szOp_den x.1 x.2
theorem szOpS_callable : callable Try.prog 4 = true := by kernel_rfl
theorem szOpS_den (a : List GOp) (b : Int) : denF { tt := tt, fs := [szOpFS] } [(5, { n := 27, its := [.t 0 (.ro (.list (.base .op))), .t 1 (.ro (.base .int)), .t 5 (.ro (.base .int))], boxes := [], ptrs := [] })] Try.f4 szOpSFS.ps szOpSFS.rs szOpSFS.ex (a, b) = szOpS a b := by kernel_rfl
theorem szOpS_sound : Sound Try.prog szOpSFS :=
  sound_of_den (E := { tt := tt, fs := [szOpFS] }) (.cons szOp_callable szOp_sound (.nil tt_ok)) mixed_ok [(5, { n := 27, its := [.t 0 (.ro (.list (.base .op))), .t 1 (.ro (.base .int)), .t 5 (.ro (.base .int))], boxes := [], ptrs := [] })] (fn := Try.f4) (by kernel_rfl) fun x => szOpS_den x.1 x.2
theorem sL42Place_callable : callable Try.prog 12 = true := by kernel_rfl
theorem sL42Place_den (a : List GOp) (b : GOp) : denF { tt := tt, fs := [] } [(2, { n := 31, its := [.t 0 (.ro (.list (.base .op))), .b 3 0 (.ro (.base .int)), .b 3 1 (.ro (.base .int)), .b 3 2 (.ro (.base .int)), .b 3 3 (.ro (.list (.base .int))), .b 3 4 (.ro (.base .int)), .b 3 5 (.ro (.base .int)), .b 3 6 (.ro (.base .int)), .b 3 7 (.ro (.base .int)), .b 3 8 (.ro (.base .int)), .b 3 9 (.ro (.base .str)), .b 3 10 (.ro (.base .str)), .b 3 11 (.ro (.base .int)), .b 3 12 (.ro (.base .str)), .b 3 13 (.ro (.base .str)), .b 3 14 (.ro (.base .int)), .b 3 15 (.ro (.base .int)), .b 3 16 (.ro (.list (.base .read))), .t 5 (.ro (.base .int))], boxes := [(3, 17)], ptrs := [(3, 3, 0)] })] Try.f12 sL42PlaceFS.ps sL42PlaceFS.rs sL42PlaceFS.ex (a, b) = sL42Place a b := by kernel_rfl
theorem sL42Place_sound : Sound Try.prog sL42PlaceFS :=
  sound_of_den (E := { tt := tt, fs := [] }) (.nil tt_ok) mixed_ok [(2, { n := 31, its := [.t 0 (.ro (.list (.base .op))), .b 3 0 (.ro (.base .int)), .b 3 1 (.ro (.base .int)), .b 3 2 (.ro (.base .int)), .b 3 3 (.ro (.list (.base .int))), .b 3 4 (.ro (.base .int)), .b 3 5 (.ro (.base .int)), .b 3 6 (.ro (.base .int)), .b 3 7 (.ro (.base .int)), .b 3 8 (.ro (.base .int)), .b 3 9 (.ro (.base .str)), .b 3 10 (.ro (.base .str)), .b 3 11 (.ro (.base .int)), .b 3 12 (.ro (.base .str)), .b 3 13 (.ro (.base .str)), .b 3 14 (.ro (.base .int)), .b 3 15 (.ro (.base .int)), .b 3 16 (.ro (.list (.base .read))), .t 5 (.ro (.base .int))], boxes := [(3, 17)], ptrs := [(3, 3, 0)] })] (fn := Try.f12) (by kernel_rfl) fun x => sL42Place_den x.1 x.2
theorem sOpBefore_callable : callable Try.prog 13 = true := by kernel_rfl
theorem sOpBefore_den (a : GOp) (b : GOp) : denF { tt := tt, fs := [] } [] Try.f13 sOpBeforeFS.ps sOpBeforeFS.rs sOpBeforeFS.ex (a, b) = sOpBefore a b := by kernel_rfl
theorem sOpBefore_sound : Sound Try.prog sOpBeforeFS :=
  sound_of_den (E := { tt := tt, fs := [] }) (.nil tt_ok) mixed_ok [] (fn := Try.f13) (by kernel_rfl) fun x => sOpBefore_den x.1 x.2
theorem sL3Row_callable : callable Try.prog 78 = true := by kernel_rfl
theorem sL3Row_den (a : GRow) : denF { tt := tt, fs := [] } [] Try.f78 sL3RowFS.ps sL3RowFS.rs sL3RowFS.ex a = sL3Row a := by kernel_rfl
theorem sL3Row_sound : Sound Try.prog sL3RowFS :=
  sound_of_den (E := { tt := tt, fs := [] }) (.nil tt_ok) mixed_ok [] (fn := Try.f78) (by kernel_rfl) fun x => sL3Row_den x
theorem sL3Copy_callable : callable Try.prog 69 = true := by kernel_rfl
theorem sL3Copy_den (rsL3Copy : GVal → Option (GVal)) (a : GVal) : denF { tt := tt, fs := [sL3RowFS, { fid := 69, ps := [⟨true, .base .val⟩], rs := [⟨true, .base .val⟩], ex := true, fn := fun x => rsL3Copy x }] } [(7, { n := 56, its := [.b 1 0 (.ro (.base .int)), .b 1 1 (.ro (.base .int)), .b 1 2 (.ro (.base .int)), .b 1 3 (.ro (.base .str)), .b 1 4 (.ro (.list (.base .val))), .b 1 5 (.ro (.list (.base .str))), .b 1 6 (.ro (.list (.base .row))), .b 2 0 (.ro (.base .int)), .b 2 1 (.ro (.base .int)), .b 2 2 (.ro (.base .int)), .b 2 3 (.ro (.base .str)), .b 2 4 (.own (.base .val) true true 0), .b 2 5 (.own (.base .str) true true 4), .b 2 6 (.own (.base .row) true true 5), .b 3 0 (.ro (.base .int)), .b 3 1 (.ro (.base .int)), .b 3 2 (.ro (.base .int)), .b 3 3 (.ro (.base .str)), .b 3 4 (.own (.base .val) true true 6), .b 3 5 (.own (.base .str) true true 7), .b 3 6 (.own (.base .row) true true 8), .t 5 (.ro (.base .int))], boxes := [(1, 7), (2, 7), (3, 7)], ptrs := [(1, 1, 0), (2, 2, 0), (3, 3, 0)] }), (3, { n := 56, its := [.b 1 0 (.ro (.base .int)), .b 1 1 (.ro (.base .int)), .b 1 2 (.ro (.base .int)), .b 1 3 (.ro (.base .str)), .b 1 4 (.ro (.list (.base .val))), .b 1 5 (.ro (.list (.base .str))), .b 1 6 (.ro (.list (.base .row))), .b 2 0 (.ro (.base .int)), .b 2 1 (.ro (.base .int)), .b 2 2 (.ro (.base .int)), .b 2 3 (.ro (.base .str)), .b 2 4 (.own (.base .val) true true 0), .b 2 5 (.own (.base .str) true true 4), .b 2 6 (.own (.base .row) true true 5), .b 3 0 (.ro (.base .int)), .b 3 1 (.ro (.base .int)), .b 3 2 (.ro (.base .int)), .b 3 3 (.ro (.base .str)), .b 3 4 (.own (.base .val) true true 6), .b 3 5 (.own (.base .str) true true 7), .b 3 6 (.own (.base .row) true true 8), .t 4 (.ro (.base .int))], boxes := [(1, 7), (2, 7), (3, 7)], ptrs := [(1, 1, 0), (2, 2, 0), (3, 3, 0)] })] Try.f69 sL3CopyFS.ps sL3CopyFS.rs sL3CopyFS.ex a = sL3CopyB rsL3Copy a := by kernel_rfl
theorem sL3CopyG_sound : ∀ n, Sound Try.prog (sL3CopyFSN n)
  | 0 => (fun w S args x y h => by cases h)
  | n + 1 => by
    have ih := sL3CopyG_sound n
    exact sound_of_den (s := sL3CopyFSN (n + 1)) (E := { tt := tt, fs := [sL3RowFS, sL3CopyFSN n] }) (.cons sL3Row_callable sL3Row_sound (.cons sL3Copy_callable ih (.nil tt_ok))) mixed_ok [(7, { n := 56, its := [.b 1 0 (.ro (.base .int)), .b 1 1 (.ro (.base .int)), .b 1 2 (.ro (.base .int)), .b 1 3 (.ro (.base .str)), .b 1 4 (.ro (.list (.base .val))), .b 1 5 (.ro (.list (.base .str))), .b 1 6 (.ro (.list (.base .row))), .b 2 0 (.ro (.base .int)), .b 2 1 (.ro (.base .int)), .b 2 2 (.ro (.base .int)), .b 2 3 (.ro (.base .str)), .b 2 4 (.own (.base .val) true true 0), .b 2 5 (.own (.base .str) true true 4), .b 2 6 (.own (.base .row) true true 5), .b 3 0 (.ro (.base .int)), .b 3 1 (.ro (.base .int)), .b 3 2 (.ro (.base .int)), .b 3 3 (.ro (.base .str)), .b 3 4 (.own (.base .val) true true 6), .b 3 5 (.own (.base .str) true true 7), .b 3 6 (.own (.base .row) true true 8), .t 5 (.ro (.base .int))], boxes := [(1, 7), (2, 7), (3, 7)], ptrs := [(1, 1, 0), (2, 2, 0), (3, 3, 0)] }), (3, { n := 56, its := [.b 1 0 (.ro (.base .int)), .b 1 1 (.ro (.base .int)), .b 1 2 (.ro (.base .int)), .b 1 3 (.ro (.base .str)), .b 1 4 (.ro (.list (.base .val))), .b 1 5 (.ro (.list (.base .str))), .b 1 6 (.ro (.list (.base .row))), .b 2 0 (.ro (.base .int)), .b 2 1 (.ro (.base .int)), .b 2 2 (.ro (.base .int)), .b 2 3 (.ro (.base .str)), .b 2 4 (.own (.base .val) true true 0), .b 2 5 (.own (.base .str) true true 4), .b 2 6 (.own (.base .row) true true 5), .b 3 0 (.ro (.base .int)), .b 3 1 (.ro (.base .int)), .b 3 2 (.ro (.base .int)), .b 3 3 (.ro (.base .str)), .b 3 4 (.own (.base .val) true true 6), .b 3 5 (.own (.base .str) true true 7), .b 3 6 (.own (.base .row) true true 8), .t 4 (.ro (.base .int))], boxes := [(1, 7), (2, 7), (3, 7)], ptrs := [(1, 1, 0), (2, 2, 0), (3, 3, 0)] })] (fn := Try.f69) (by kernel_rfl) fun x => sL3Copy_den _ x
theorem sL3Copy_sound : Sound Try.prog sL3CopyFS := fun w S args x y h => (sL3CopyG_sound (siz (α := GVal) x + 1)) w S args x y h
theorem sL16Read_callable : callable Try.prog 49 = true := by kernel_rfl
theorem sL16Read_den (a : GRead) : denF { tt := tt, fs := [sL3CopyFS] } [] Try.f49 sL16ReadFS.ps sL16ReadFS.rs sL16ReadFS.ex a = sL16Read a := by kernel_rfl
theorem sL16Read_sound : Sound Try.prog sL16ReadFS :=
  sound_of_den (E := { tt := tt, fs := [sL3CopyFS] }) (.cons sL3Copy_callable sL3Copy_sound (.nil tt_ok)) mixed_ok [] (fn := Try.f49) (by kernel_rfl) fun x => sL16Read_den x
theorem sL16Reads_callable : callable Try.prog 29 = true := by kernel_rfl
theorem sL16Reads_den (a : List GRead) : denF { tt := tt, fs := [sL16ReadFS] } [(3, { n := 21, its := [.t 0 (.ro (.list (.base .read))), .t 3 (.own (.base .read) true true 0), .t 4 (.ro (.base .int))], boxes := [], ptrs := [] })] Try.f29 sL16ReadsFS.ps sL16ReadsFS.rs sL16ReadsFS.ex a = sL16Reads a := by kernel_rfl
theorem sL16Reads_sound : Sound Try.prog sL16ReadsFS :=
  sound_of_den (E := { tt := tt, fs := [sL16ReadFS] }) (.cons sL16Read_callable sL16Read_sound (.nil tt_ok)) mixed_ok [(3, { n := 21, its := [.t 0 (.ro (.list (.base .read))), .t 3 (.own (.base .read) true true 0), .t 4 (.ro (.base .int))], boxes := [], ptrs := [] })] (fn := Try.f29) (by kernel_rfl) fun x => sL16Reads_den x
theorem sL41Copy_callable : callable Try.prog 14 = true := by kernel_rfl
theorem sL41Copy_den (a : GOp) : denF { tt := tt, fs := [sL16ReadsFS] } [] Try.f14 sL41CopyFS.ps sL41CopyFS.rs sL41CopyFS.ex a = sL41Copy a := by kernel_rfl
theorem sL41Copy_sound : Sound Try.prog sL41CopyFS :=
  sound_of_den (E := { tt := tt, fs := [sL16ReadsFS] }) (.cons sL16Reads_callable sL16Reads_sound (.nil tt_ok)) mixed_ok [] (fn := Try.f14) (by kernel_rfl) fun x => sL41Copy_den x
theorem sMergeOps_callable : callable Try.prog 5 = true := by kernel_rfl
theorem sMergeOps_den (a : List GOp) (b : List GOp) : denS { tt := tt, fs := [sL42PlaceFS, sOpBeforeFS, sL41CopyFS] } [(8, { n := 65, its := [.t 5 (.own (.base .op) false true 0), .t 6 (.own (.base .op) false true 1), .t 7 (.ro (.base .int)), .t 8 (.ro (.base .int))], boxes := [], ptrs := [] }), (4, { n := 65, its := [.t 5 (.own (.base .op) false true 0), .t 6 (.own (.base .op) false true 1), .t 7 (.ro (.base .int))], boxes := [], ptrs := [] })] Try.f5 sMergeOpsFS.ps sMergeOpsFS.rs (a, b) = sMergeOps a b := by kernel_rfl
theorem sMergeOps_sound : SSound Try.prog sMergeOpsFS :=
  ssound_of_den (E := { tt := tt, fs := [sL42PlaceFS, sOpBeforeFS, sL41CopyFS] }) (.cons sL42Place_callable sL42Place_sound (.cons sOpBefore_callable sOpBefore_sound (.cons sL41Copy_callable sL41Copy_sound (.nil tt_ok)))) mixed_ok [(8, { n := 65, its := [.t 5 (.own (.base .op) false true 0), .t 6 (.own (.base .op) false true 1), .t 7 (.ro (.base .int)), .t 8 (.ro (.base .int))], boxes := [], ptrs := [] }), (4, { n := 65, its := [.t 5 (.own (.base .op) false true 0), .t 6 (.own (.base .op) false true 1), .t 7 (.ro (.base .int))], boxes := [], ptrs := [] })] (fn := Try.f5) (by kernel_rfl) fun x => sMergeOps_den x.1 x.2
theorem toIntS_callable : callable Try.prog 30 = true := by kernel_rfl
theorem toIntS_den (a : List Int) : denF { tt := tt, fs := [] } [(3, { n := 22, its := [.t 0 (.ro (.list (.base .int))), .t 3 (.own (.base .int) true true 0), .t 4 (.ro (.base .int))], boxes := [], ptrs := [] })] Try.f30 toIntSFS.ps toIntSFS.rs toIntSFS.ex a = toIntS a := by kernel_rfl
theorem toIntS_sound : Sound Try.prog toIntSFS :=
  sound_of_den (E := { tt := tt, fs := [] }) (.nil tt_ok) mixed_ok [(3, { n := 22, its := [.t 0 (.ro (.list (.base .int))), .t 3 (.own (.base .int) true true 0), .t 4 (.ro (.base .int))], boxes := [], ptrs := [] })] (fn := Try.f30) (by kernel_rfl) fun x => toIntS_den x
theorem toCell_callable : callable Try.prog 50 = true := by kernel_rfl
theorem toCell_den (a : GCell) : denF { tt := tt, fs := [] } [] Try.f50 toCellFS.ps toCellFS.rs toCellFS.ex a = toCell a := by kernel_rfl
theorem toCell_sound : Sound Try.prog toCellFS :=
  sound_of_den (E := { tt := tt, fs := [] }) (.nil tt_ok) mixed_ok [] (fn := Try.f50) (by kernel_rfl) fun x => toCell_den x
theorem toEdit_callable : callable Try.prog 31 = true := by kernel_rfl
theorem toEdit_den (a : GEdit) : denF { tt := tt, fs := [toCellFS] } [] Try.f31 toEditFS.ps toEditFS.rs toEditFS.ex a = toEdit a := by kernel_rfl
theorem toEdit_sound : Sound Try.prog toEditFS :=
  sound_of_den (E := { tt := tt, fs := [toCellFS] }) (.cons toCell_callable toCell_sound (.nil tt_ok)) mixed_ok [] (fn := Try.f31) (by kernel_rfl) fun x => toEdit_den x
theorem toStringS_callable : callable Try.prog 80 = true := by kernel_rfl
theorem toStringS_den (a : List Str) : denF { tt := tt, fs := [] } [(3, { n := 22, its := [.t 0 (.ro (.list (.base .str))), .t 3 (.own (.base .str) true true 0), .t 4 (.ro (.base .int))], boxes := [], ptrs := [] })] Try.f80 toStringSFS.ps toStringSFS.rs toStringSFS.ex a = toStringS a := by kernel_rfl
theorem toStringS_sound : Sound Try.prog toStringSFS :=
  sound_of_den (E := { tt := tt, fs := [] }) (.nil tt_ok) mixed_ok [(3, { n := 22, its := [.t 0 (.ro (.list (.base .str))), .t 3 (.own (.base .str) true true 0), .t 4 (.ro (.base .int))], boxes := [], ptrs := [] })] (fn := Try.f80) (by kernel_rfl) fun x => toStringS_den x
theorem toOrigin_callable : callable Try.prog 92 = true := by kernel_rfl
theorem toOrigin_den (a : GOrigin) : denF { tt := tt, fs := [] } [] Try.f92 toOriginFS.ps toOriginFS.rs toOriginFS.ex a = toOrigin a := by kernel_rfl
theorem toOrigin_sound : Sound Try.prog toOriginFS :=
  sound_of_den (E := { tt := tt, fs := [] }) (.nil tt_ok) mixed_ok [] (fn := Try.f92) (by kernel_rfl) fun x => toOrigin_den x
theorem toOriginS_callable : callable Try.prog 90 = true := by kernel_rfl
theorem toOriginS_den (a : List GOrigin) : denF { tt := tt, fs := [toOriginFS] } [(3, { n := 23, its := [.t 0 (.ro (.list (.base .origin))), .t 3 (.own (.base .origin) true true 0), .t 4 (.ro (.base .int))], boxes := [], ptrs := [] })] Try.f90 toOriginSFS.ps toOriginSFS.rs toOriginSFS.ex a = toOriginS a := by kernel_rfl
theorem toOriginS_sound : Sound Try.prog toOriginSFS :=
  sound_of_den (E := { tt := tt, fs := [toOriginFS] }) (.cons toOrigin_callable toOrigin_sound (.nil tt_ok)) mixed_ok [(3, { n := 23, its := [.t 0 (.ro (.list (.base .origin))), .t 3 (.own (.base .origin) true true 0), .t 4 (.ro (.base .int))], boxes := [], ptrs := [] })] (fn := Try.f90) (by kernel_rfl) fun x => toOriginS_den x
theorem toRow_callable : callable Try.prog 87 = true := by kernel_rfl
theorem toRow_den (a : GRow) : denF { tt := tt, fs := [toIntSFS, toOriginSFS] } [] Try.f87 toRowFS.ps toRowFS.rs toRowFS.ex a = toRow a := by kernel_rfl
theorem toRow_sound : Sound Try.prog toRowFS :=
  sound_of_den (E := { tt := tt, fs := [toIntSFS, toOriginSFS] }) (.cons toIntS_callable toIntS_sound (.cons toOriginS_callable toOriginS_sound (.nil tt_ok))) mixed_ok [] (fn := Try.f87) (by kernel_rfl) fun x => toRow_den x
theorem toRowS_callable : callable Try.prog 81 = true := by kernel_rfl
theorem toRowS_den (a : List GRow) : denF { tt := tt, fs := [toRowFS] } [(3, { n := 23, its := [.t 0 (.ro (.list (.base .row))), .t 3 (.own (.base .row) true true 0), .t 4 (.ro (.base .int))], boxes := [], ptrs := [] })] Try.f81 toRowSFS.ps toRowSFS.rs toRowSFS.ex a = toRowS a := by kernel_rfl
theorem toRowS_sound : Sound Try.prog toRowSFS :=
  sound_of_den (E := { tt := tt, fs := [toRowFS] }) (.cons toRow_callable toRow_sound (.nil tt_ok)) mixed_ok [(3, { n := 23, its := [.t 0 (.ro (.list (.base .row))), .t 3 (.own (.base .row) true true 0), .t 4 (.ro (.base .int))], boxes := [], ptrs := [] })] (fn := Try.f81) (by kernel_rfl) fun x => toRowS_den x
theorem toValue_callable : callable Try.prog 70 = true := by kernel_rfl
end Go.Proofs.Ytijhfajcbmpndaa
