/- The functions compute their models, by gen.py. -/
import Derived.Test.YtijhfajcbmpndaaGreatEnvs
namespace Go.Proofs.YtijhfajcbmpndaaGreat
open Go.Abs Go.Proofs
set_option maxRecDepth 100000
theorem szIntS_callable : callable Tryz.prog 70 = true := by kernel_rfl
theorem szIntS_den (a : List Int) (b : Int) : denF { tt := tt, fs := [] } [] Tryz.f70 szIntSFS.ps szIntSFS.rs szIntSFS.ex (a, b) = szIntS a b := by kernel_rfl
theorem szIntS_sound : Sound Tryz.prog szIntSFS :=
  sound_of_den (E := { tt := tt, fs := [] }) (.nil tt_ok) mixed_ok [] (fn := Tryz.f70) (by kernel_rfl) fun x => szIntS_den x.1 x.2
theorem szCell_callable : callable Tryz.prog 108 = true := by kernel_rfl
theorem szCell_den (a : GCell) (b : Int) : denF { tt := tt, fs := [] } [] Tryz.f108 szCellFS.ps szCellFS.rs szCellFS.ex (a, b) = szCell a b := by kernel_rfl
theorem szCell_sound : Sound Tryz.prog szCellFS :=
  sound_of_den (E := { tt := tt, fs := [] }) (.nil tt_ok) mixed_ok [] (fn := Tryz.f108) (by kernel_rfl) fun x => szCell_den x.1 x.2
theorem szEdit_callable : callable Tryz.prog 71 = true := by kernel_rfl
theorem szEdit_den (a : GEdit) (b : Int) : denF { tt := tt, fs := [szCellFS] } [] Tryz.f71 szEditFS.ps szEditFS.rs szEditFS.ex (a, b) = szEdit a b := by kernel_rfl
theorem szEdit_sound : Sound Tryz.prog szEditFS :=
  sound_of_den (E := { tt := tt, fs := [szCellFS] }) (.cons szCell_callable szCell_sound (.nil tt_ok)) mixed_ok [] (fn := Tryz.f71) (by kernel_rfl) fun x => szEdit_den x.1 x.2
theorem szStringS_callable : callable Tryz.prog 138 = true := by kernel_rfl
theorem szStringS_den (a : List Str) (b : Int) : denF { tt := tt, fs := [] } [(5, { n := 28, its := [.t 0 (.ro (.list (.base .str))), .t 1 (.ro (.base .int)), .t 5 (.ro (.base .int))], boxes := [], ptrs := [] })] Tryz.f138 szStringSFS.ps szStringSFS.rs szStringSFS.ex (a, b) = szStringS a b := by kernel_rfl
theorem szStringS_sound : Sound Tryz.prog szStringSFS :=
  sound_of_den (E := { tt := tt, fs := [] }) (.nil tt_ok) mixed_ok [(5, { n := 28, its := [.t 0 (.ro (.list (.base .str))), .t 1 (.ro (.base .int)), .t 5 (.ro (.base .int))], boxes := [], ptrs := [] })] (fn := Tryz.f138) (by kernel_rfl) fun x => szStringS_den x.1 x.2
theorem szOriginS_callable : callable Tryz.prog 170 = true := by kernel_rfl
theorem szOriginS_den (a : List GOrigin) (b : Int) : denF { tt := tt, fs := [] } [] Tryz.f170 szOriginSFS.ps szOriginSFS.rs szOriginSFS.ex (a, b) = szOriginS a b := by kernel_rfl
theorem szOriginS_sound : Sound Tryz.prog szOriginSFS :=
  sound_of_den (E := { tt := tt, fs := [] }) (.nil tt_ok) mixed_ok [] (fn := Tryz.f170) (by kernel_rfl) fun x => szOriginS_den x.1 x.2
theorem szRow_callable : callable Tryz.prog 159 = true := by kernel_rfl
theorem szRow_den (a : GRow) (b : Int) : denF { tt := tt, fs := [szIntSFS, szOriginSFS] } [] Tryz.f159 szRowFS.ps szRowFS.rs szRowFS.ex (a, b) = szRow a b := by kernel_rfl
theorem szRow_sound : Sound Tryz.prog szRowFS :=
  sound_of_den (E := { tt := tt, fs := [szIntSFS, szOriginSFS] }) (.cons szIntS_callable szIntS_sound (.cons szOriginS_callable szOriginS_sound (.nil tt_ok))) mixed_ok [] (fn := Tryz.f159) (by kernel_rfl) fun x => szRow_den x.1 x.2
theorem szRowS_callable : callable Tryz.prog 139 = true := by kernel_rfl
theorem szRowS_den (a : List GRow) (b : Int) : denF { tt := tt, fs := [szRowFS] } [(5, { n := 27, its := [.t 0 (.ro (.list (.base .row))), .t 1 (.ro (.base .int)), .t 5 (.ro (.base .int))], boxes := [], ptrs := [] })] Tryz.f139 szRowSFS.ps szRowSFS.rs szRowSFS.ex (a, b) = szRowS a b := by kernel_rfl
theorem szRowS_sound : Sound Tryz.prog szRowSFS :=
  sound_of_den (E := { tt := tt, fs := [szRowFS] }) (.cons szRow_callable szRow_sound (.nil tt_ok)) mixed_ok [(5, { n := 27, its := [.t 0 (.ro (.list (.base .row))), .t 1 (.ro (.base .int)), .t 5 (.ro (.base .int))], boxes := [], ptrs := [] })] (fn := Tryz.f139) (by kernel_rfl) fun x => szRowS_den x.1 x.2
theorem szValue_callable : callable Tryz.prog 126 = true := by kernel_rfl
theorem szValueS_callable : callable Tryz.prog 137 = true := by kernel_rfl
theorem szValue_den (rszValue : GVal → Int → Option (Int)) (rszValueS : (List GVal) → Int → Option (Int)) (a : GVal) (b : Int) : denF { tt := tt, fs := [szStringSFS, szRowSFS, { fid := 126, ps := [⟨true, .base .val⟩, ⟨false, .base .int⟩], rs := [⟨false, .base .int⟩], ex := true, fn := fun x => rszValue x.1 x.2 }, { fid := 137, ps := [⟨false, .list (.base .val)⟩, ⟨false, .base .int⟩], rs := [⟨false, .base .int⟩], ex := true, fn := fun x => rszValueS x.1 x.2 }] } [] Tryz.f126 szValueFS.ps szValueFS.rs szValueFS.ex (a, b) = szValueB rszValue rszValueS a b := by kernel_rfl
theorem szValueS_den (rszValue : GVal → Int → Option (Int)) (rszValueS : (List GVal) → Int → Option (Int)) (a : List GVal) (b : Int) : denF { tt := tt, fs := [szStringSFS, szRowSFS, { fid := 126, ps := [⟨true, .base .val⟩, ⟨false, .base .int⟩], rs := [⟨false, .base .int⟩], ex := true, fn := fun x => rszValue x.1 x.2 }, { fid := 137, ps := [⟨false, .list (.base .val)⟩, ⟨false, .base .int⟩], rs := [⟨false, .base .int⟩], ex := true, fn := fun x => rszValueS x.1 x.2 }] } [(5, { n := 27, its := [.t 0 (.ro (.list (.base .val))), .t 1 (.ro (.base .int)), .t 5 (.ro (.base .int))], boxes := [], ptrs := [] })] Tryz.f137 szValueSFS.ps szValueSFS.rs szValueSFS.ex (a, b) = szValueSB rszValue rszValueS a b := by kernel_rfl
theorem szValueG_sound : ∀ n, Sound Tryz.prog (szValueFSN n) ∧ Sound Tryz.prog (szValueSFSN n)
  | 0 => ⟨(fun w S args x y h => by cases h), (fun w S args x y h => by cases h)⟩
  | n + 1 => by
    have ih := szValueG_sound n
    exact ⟨sound_of_den (s := szValueFSN (n + 1)) (E := { tt := tt, fs := [szStringSFS, szRowSFS, szValueFSN n, szValueSFSN n] }) (.cons szStringS_callable szStringS_sound (.cons szRowS_callable szRowS_sound (.cons szValue_callable ih.1 (.cons szValueS_callable ih.2 (.nil tt_ok))))) mixed_ok [] (fn := Tryz.f126) (by kernel_rfl) fun x => szValue_den _ _ x.1 x.2, sound_of_den (s := szValueSFSN (n + 1)) (E := { tt := tt, fs := [szStringSFS, szRowSFS, szValueFSN n, szValueSFSN n] }) (.cons szStringS_callable szStringS_sound (.cons szRowS_callable szRowS_sound (.cons szValue_callable ih.1 (.cons szValueS_callable ih.2 (.nil tt_ok))))) mixed_ok [(5, { n := 27, its := [.t 0 (.ro (.list (.base .val))), .t 1 (.ro (.base .int)), .t 5 (.ro (.base .int))], boxes := [], ptrs := [] })] (fn := Tryz.f137) (by kernel_rfl) fun x => szValueS_den _ _ x.1 x.2⟩
theorem szValue_sound : Sound Tryz.prog szValueFS := fun w S args x y h => (szValueG_sound (siz (α := GVal) x.1 + 1)).1 w S args x y h
theorem szValueS_sound : Sound Tryz.prog szValueSFS := fun w S args x y h => (szValueG_sound (siz (α := List GVal) x.1 + 1)).2 w S args x y h
theorem szRead_callable : callable Tryz.prog 109 = true := by kernel_rfl
theorem szRead_den (a : GRead) (b : Int) : denF { tt := tt, fs := [szValueFS] } [] Tryz.f109 szReadFS.ps szReadFS.rs szReadFS.ex (a, b) = szRead a b := by kernel_rfl
theorem szRead_sound : Sound Tryz.prog szReadFS :=
  sound_of_den (E := { tt := tt, fs := [szValueFS] }) (.cons szValue_callable szValue_sound (.nil tt_ok)) mixed_ok [] (fn := Tryz.f109) (by kernel_rfl) fun x => szRead_den x.1 x.2
theorem szReadS_callable : callable Tryz.prog 72 = true := by kernel_rfl
theorem szReadS_den (a : List GRead) (b : Int) : denF { tt := tt, fs := [szReadFS] } [(5, { n := 27, its := [.t 0 (.ro (.list (.base .read))), .t 1 (.ro (.base .int)), .t 5 (.ro (.base .int))], boxes := [], ptrs := [] })] Tryz.f72 szReadSFS.ps szReadSFS.rs szReadSFS.ex (a, b) = szReadS a b := by kernel_rfl
theorem szReadS_sound : Sound Tryz.prog szReadSFS :=
  sound_of_den (E := { tt := tt, fs := [szReadFS] }) (.cons szRead_callable szRead_sound (.nil tt_ok)) mixed_ok [(5, { n := 27, its := [.t 0 (.ro (.list (.base .read))), .t 1 (.ro (.base .int)), .t 5 (.ro (.base .int))], boxes := [], ptrs := [] })] (fn := Tryz.f72) (by kernel_rfl) fun x => szReadS_den x.1 x.2
theorem szOp_callable : callable Tryz.prog 44 = true := by kernel_rfl
theorem szOp_den (a : GOp) (b : Int) : denF { tt := tt, fs := [szIntSFS, szEditFS, szReadSFS] } [] Tryz.f44 szOpFS.ps szOpFS.rs szOpFS.ex (a, b) = szOp a b := by kernel_rfl
theorem szOp_sound : Sound Tryz.prog szOpFS :=
  sound_of_den (E := { tt := tt, fs := [szIntSFS, szEditFS, szReadSFS] }) (.cons szIntS_callable szIntS_sound (.cons szEdit_callable szEdit_sound (.cons szReadS_callable szReadS_sound (.nil tt_ok)))) mixed_ok [] (fn := Tryz.f44) (by kernel_rfl) fun x => szOp_den x.1 x.2
theorem szOpS_callable : callable Tryz.prog 20 = true := by kernel_rfl
theorem szOpS_den (a : List GOp) (b : Int) : denF { tt := tt, fs := [szOpFS] } [(5, { n := 27, its := [.t 0 (.ro (.list (.base .op))), .t 1 (.ro (.base .int)), .t 5 (.ro (.base .int))], boxes := [], ptrs := [] })] Tryz.f20 szOpSFS.ps szOpSFS.rs szOpSFS.ex (a, b) = szOpS a b := by kernel_rfl
theorem szOpS_sound : Sound Tryz.prog szOpSFS :=
  sound_of_den (E := { tt := tt, fs := [szOpFS] }) (.cons szOp_callable szOp_sound (.nil tt_ok)) mixed_ok [(5, { n := 27, its := [.t 0 (.ro (.list (.base .op))), .t 1 (.ro (.base .int)), .t 5 (.ro (.base .int))], boxes := [], ptrs := [] })] (fn := Tryz.f20) (by kernel_rfl) fun x => szOpS_den x.1 x.2
theorem szReplica_callable : callable Tryz.prog 5 = true := by kernel_rfl
theorem szReplica_den (a : GReplica) (b : Int) : denF { tt := tt, fs := [szOpSFS] } [] Tryz.f5 szReplicaFS.ps szReplicaFS.rs szReplicaFS.ex (a, b) = szReplica a b := by kernel_rfl
theorem szReplica_sound : Sound Tryz.prog szReplicaFS :=
  sound_of_den (E := { tt := tt, fs := [szOpSFS] }) (.cons szOpS_callable szOpS_sound (.nil tt_ok)) mixed_ok [] (fn := Tryz.f5) (by kernel_rfl) fun x => szReplica_den x.1 x.2
theorem sL42Place_callable : callable Tryz.prog 36 = true := by kernel_rfl
theorem sL42Place_den (a : List GOp) (b : GOp) : denF { tt := tt, fs := [] } [(2, { n := 31, its := [.t 0 (.ro (.list (.base .op))), .b 3 0 (.ro (.base .int)), .b 3 1 (.ro (.base .int)), .b 3 2 (.ro (.base .int)), .b 3 3 (.ro (.list (.base .int))), .b 3 4 (.ro (.base .int)), .b 3 5 (.ro (.base .int)), .b 3 6 (.ro (.base .int)), .b 3 7 (.ro (.base .int)), .b 3 8 (.ro (.base .int)), .b 3 9 (.ro (.base .str)), .b 3 10 (.ro (.base .str)), .b 3 11 (.ro (.base .int)), .b 3 12 (.ro (.base .str)), .b 3 13 (.ro (.base .str)), .b 3 14 (.ro (.base .int)), .b 3 15 (.ro (.base .int)), .b 3 16 (.ro (.list (.base .read))), .t 5 (.ro (.base .int))], boxes := [(3, 17)], ptrs := [(3, 3, 0)] })] Tryz.f36 sL42PlaceFS.ps sL42PlaceFS.rs sL42PlaceFS.ex (a, b) = sL42Place a b := by kernel_rfl
theorem sL42Place_sound : Sound Tryz.prog sL42PlaceFS :=
  sound_of_den (E := { tt := tt, fs := [] }) (.nil tt_ok) mixed_ok [(2, { n := 31, its := [.t 0 (.ro (.list (.base .op))), .b 3 0 (.ro (.base .int)), .b 3 1 (.ro (.base .int)), .b 3 2 (.ro (.base .int)), .b 3 3 (.ro (.list (.base .int))), .b 3 4 (.ro (.base .int)), .b 3 5 (.ro (.base .int)), .b 3 6 (.ro (.base .int)), .b 3 7 (.ro (.base .int)), .b 3 8 (.ro (.base .int)), .b 3 9 (.ro (.base .str)), .b 3 10 (.ro (.base .str)), .b 3 11 (.ro (.base .int)), .b 3 12 (.ro (.base .str)), .b 3 13 (.ro (.base .str)), .b 3 14 (.ro (.base .int)), .b 3 15 (.ro (.base .int)), .b 3 16 (.ro (.list (.base .read))), .t 5 (.ro (.base .int))], boxes := [(3, 17)], ptrs := [(3, 3, 0)] })] (fn := Tryz.f36) (by kernel_rfl) fun x => sL42Place_den x.1 x.2
theorem sOpBefore_callable : callable Tryz.prog 37 = true := by kernel_rfl
theorem sOpBefore_den (a : GOp) (b : GOp) : denF { tt := tt, fs := [] } [] Tryz.f37 sOpBeforeFS.ps sOpBeforeFS.rs sOpBeforeFS.ex (a, b) = sOpBefore a b := by kernel_rfl
theorem sOpBefore_sound : Sound Tryz.prog sOpBeforeFS :=
  sound_of_den (E := { tt := tt, fs := [] }) (.nil tt_ok) mixed_ok [] (fn := Tryz.f37) (by kernel_rfl) fun x => sOpBefore_den x.1 x.2
theorem sL3Row_callable : callable Tryz.prog 136 = true := by kernel_rfl
theorem sL3Row_den (a : GRow) : denF { tt := tt, fs := [] } [] Tryz.f136 sL3RowFS.ps sL3RowFS.rs sL3RowFS.ex a = sL3Row a := by kernel_rfl
theorem sL3Row_sound : Sound Tryz.prog sL3RowFS :=
  sound_of_den (E := { tt := tt, fs := [] }) (.nil tt_ok) mixed_ok [] (fn := Tryz.f136) (by kernel_rfl) fun x => sL3Row_den x
theorem sL3Copy_callable : callable Tryz.prog 125 = true := by kernel_rfl
theorem sL3Copy_den (rsL3Copy : GVal → Option (GVal)) (a : GVal) : denF { tt := tt, fs := [sL3RowFS, { fid := 125, ps := [⟨true, .base .val⟩], rs := [⟨true, .base .val⟩], ex := true, fn := fun x => rsL3Copy x }] } [(7, { n := 56, its := [.b 1 0 (.ro (.base .int)), .b 1 1 (.ro (.base .int)), .b 1 2 (.ro (.base .int)), .b 1 3 (.ro (.base .str)), .b 1 4 (.ro (.list (.base .val))), .b 1 5 (.ro (.list (.base .str))), .b 1 6 (.ro (.list (.base .row))), .b 2 0 (.ro (.base .int)), .b 2 1 (.ro (.base .int)), .b 2 2 (.ro (.base .int)), .b 2 3 (.ro (.base .str)), .b 2 4 (.own (.base .val) true true 0), .b 2 5 (.own (.base .str) true true 4), .b 2 6 (.own (.base .row) true true 5), .b 3 0 (.ro (.base .int)), .b 3 1 (.ro (.base .int)), .b 3 2 (.ro (.base .int)), .b 3 3 (.ro (.base .str)), .b 3 4 (.own (.base .val) true true 6), .b 3 5 (.own (.base .str) true true 7), .b 3 6 (.own (.base .row) true true 8), .t 5 (.ro (.base .int))], boxes := [(1, 7), (2, 7), (3, 7)], ptrs := [(1, 1, 0), (2, 2, 0), (3, 3, 0)] }), (3, { n := 56, its := [.b 1 0 (.ro (.base .int)), .b 1 1 (.ro (.base .int)), .b 1 2 (.ro (.base .int)), .b 1 3 (.ro (.base .str)), .b 1 4 (.ro (.list (.base .val))), .b 1 5 (.ro (.list (.base .str))), .b 1 6 (.ro (.list (.base .row))), .b 2 0 (.ro (.base .int)), .b 2 1 (.ro (.base .int)), .b 2 2 (.ro (.base .int)), .b 2 3 (.ro (.base .str)), .b 2 4 (.own (.base .val) true true 0), .b 2 5 (.own (.base .str) true true 4), .b 2 6 (.own (.base .row) true true 5), .b 3 0 (.ro (.base .int)), .b 3 1 (.ro (.base .int)), .b 3 2 (.ro (.base .int)), .b 3 3 (.ro (.base .str)), .b 3 4 (.own (.base .val) true true 6), .b 3 5 (.own (.base .str) true true 7), .b 3 6 (.own (.base .row) true true 8), .t 4 (.ro (.base .int))], boxes := [(1, 7), (2, 7), (3, 7)], ptrs := [(1, 1, 0), (2, 2, 0), (3, 3, 0)] })] Tryz.f125 sL3CopyFS.ps sL3CopyFS.rs sL3CopyFS.ex a = sL3CopyB rsL3Copy a := by kernel_rfl
theorem sL3CopyG_sound : ∀ n, Sound Tryz.prog (sL3CopyFSN n)
  | 0 => (fun w S args x y h => by cases h)
  | n + 1 => by
    have ih := sL3CopyG_sound n
    exact sound_of_den (s := sL3CopyFSN (n + 1)) (E := { tt := tt, fs := [sL3RowFS, sL3CopyFSN n] }) (.cons sL3Row_callable sL3Row_sound (.cons sL3Copy_callable ih (.nil tt_ok))) mixed_ok [(7, { n := 56, its := [.b 1 0 (.ro (.base .int)), .b 1 1 (.ro (.base .int)), .b 1 2 (.ro (.base .int)), .b 1 3 (.ro (.base .str)), .b 1 4 (.ro (.list (.base .val))), .b 1 5 (.ro (.list (.base .str))), .b 1 6 (.ro (.list (.base .row))), .b 2 0 (.ro (.base .int)), .b 2 1 (.ro (.base .int)), .b 2 2 (.ro (.base .int)), .b 2 3 (.ro (.base .str)), .b 2 4 (.own (.base .val) true true 0), .b 2 5 (.own (.base .str) true true 4), .b 2 6 (.own (.base .row) true true 5), .b 3 0 (.ro (.base .int)), .b 3 1 (.ro (.base .int)), .b 3 2 (.ro (.base .int)), .b 3 3 (.ro (.base .str)), .b 3 4 (.own (.base .val) true true 6), .b 3 5 (.own (.base .str) true true 7), .b 3 6 (.own (.base .row) true true 8), .t 5 (.ro (.base .int))], boxes := [(1, 7), (2, 7), (3, 7)], ptrs := [(1, 1, 0), (2, 2, 0), (3, 3, 0)] }), (3, { n := 56, its := [.b 1 0 (.ro (.base .int)), .b 1 1 (.ro (.base .int)), .b 1 2 (.ro (.base .int)), .b 1 3 (.ro (.base .str)), .b 1 4 (.ro (.list (.base .val))), .b 1 5 (.ro (.list (.base .str))), .b 1 6 (.ro (.list (.base .row))), .b 2 0 (.ro (.base .int)), .b 2 1 (.ro (.base .int)), .b 2 2 (.ro (.base .int)), .b 2 3 (.ro (.base .str)), .b 2 4 (.own (.base .val) true true 0), .b 2 5 (.own (.base .str) true true 4), .b 2 6 (.own (.base .row) true true 5), .b 3 0 (.ro (.base .int)), .b 3 1 (.ro (.base .int)), .b 3 2 (.ro (.base .int)), .b 3 3 (.ro (.base .str)), .b 3 4 (.own (.base .val) true true 6), .b 3 5 (.own (.base .str) true true 7), .b 3 6 (.own (.base .row) true true 8), .t 4 (.ro (.base .int))], boxes := [(1, 7), (2, 7), (3, 7)], ptrs := [(1, 1, 0), (2, 2, 0), (3, 3, 0)] })] (fn := Tryz.f125) (by kernel_rfl) fun x => sL3Copy_den _ x
theorem sL3Copy_sound : Sound Tryz.prog sL3CopyFS := fun w S args x y h => (sL3CopyG_sound (siz (α := GVal) x + 1)) w S args x y h
theorem sL16Read_callable : callable Tryz.prog 106 = true := by kernel_rfl
theorem sL16Read_den (a : GRead) : denF { tt := tt, fs := [sL3CopyFS] } [] Tryz.f106 sL16ReadFS.ps sL16ReadFS.rs sL16ReadFS.ex a = sL16Read a := by kernel_rfl
theorem sL16Read_sound : Sound Tryz.prog sL16ReadFS :=
  sound_of_den (E := { tt := tt, fs := [sL3CopyFS] }) (.cons sL3Copy_callable sL3Copy_sound (.nil tt_ok)) mixed_ok [] (fn := Tryz.f106) (by kernel_rfl) fun x => sL16Read_den x
theorem sL16Reads_callable : callable Tryz.prog 67 = true := by kernel_rfl
theorem sL16Reads_den (a : List GRead) : denF { tt := tt, fs := [sL16ReadFS] } [(3, { n := 21, its := [.t 0 (.ro (.list (.base .read))), .t 3 (.own (.base .read) true true 0), .t 4 (.ro (.base .int))], boxes := [], ptrs := [] })] Tryz.f67 sL16ReadsFS.ps sL16ReadsFS.rs sL16ReadsFS.ex a = sL16Reads a := by kernel_rfl
theorem sL16Reads_sound : Sound Tryz.prog sL16ReadsFS :=
  sound_of_den (E := { tt := tt, fs := [sL16ReadFS] }) (.cons sL16Read_callable sL16Read_sound (.nil tt_ok)) mixed_ok [(3, { n := 21, its := [.t 0 (.ro (.list (.base .read))), .t 3 (.own (.base .read) true true 0), .t 4 (.ro (.base .int))], boxes := [], ptrs := [] })] (fn := Tryz.f67) (by kernel_rfl) fun x => sL16Reads_den x
theorem sL41Copy_callable : callable Tryz.prog 38 = true := by kernel_rfl
theorem sL41Copy_den (a : GOp) : denF { tt := tt, fs := [sL16ReadsFS] } [] Tryz.f38 sL41CopyFS.ps sL41CopyFS.rs sL41CopyFS.ex a = sL41Copy a := by kernel_rfl
theorem sL41Copy_sound : Sound Tryz.prog sL41CopyFS :=
  sound_of_den (E := { tt := tt, fs := [sL16ReadsFS] }) (.cons sL16Reads_callable sL16Reads_sound (.nil tt_ok)) mixed_ok [] (fn := Tryz.f38) (by kernel_rfl) fun x => sL41Copy_den x
theorem sMergeOps_callable : callable Tryz.prog 16 = true := by kernel_rfl
theorem sMergeOps_den (a : List GOp) (b : List GOp) : denS { tt := tt, fs := [sL42PlaceFS, sOpBeforeFS, sL41CopyFS] } [(8, { n := 65, its := [.t 5 (.own (.base .op) false true 0), .t 6 (.own (.base .op) false true 1), .t 7 (.ro (.base .int)), .t 8 (.ro (.base .int))], boxes := [], ptrs := [] }), (4, { n := 65, its := [.t 5 (.own (.base .op) false true 0), .t 6 (.own (.base .op) false true 1), .t 7 (.ro (.base .int))], boxes := [], ptrs := [] })] Tryz.f16 sMergeOpsFS.ps sMergeOpsFS.rs (a, b) = sMergeOps a b := by kernel_rfl
theorem sMergeOps_sound : SSound Tryz.prog sMergeOpsFS :=
  ssound_of_den (E := { tt := tt, fs := [sL42PlaceFS, sOpBeforeFS, sL41CopyFS] }) (.cons sL42Place_callable sL42Place_sound (.cons sOpBefore_callable sOpBefore_sound (.cons sL41Copy_callable sL41Copy_sound (.nil tt_ok)))) mixed_ok [(8, { n := 65, its := [.t 5 (.own (.base .op) false true 0), .t 6 (.own (.base .op) false true 1), .t 7 (.ro (.base .int)), .t 8 (.ro (.base .int))], boxes := [], ptrs := [] }), (4, { n := 65, its := [.t 5 (.own (.base .op) false true 0), .t 6 (.own (.base .op) false true 1), .t 7 (.ro (.base .int))], boxes := [], ptrs := [] })] (fn := Tryz.f16) (by kernel_rfl) fun x => sMergeOps_den x.1 x.2
theorem sL1In_callable : callable Tryz.prog 45 = true := by kernel_rfl
theorem sL1In_den (a : Int) (b : Int) (c : Int) : denF { tt := tt, fs := [] } [] Tryz.f45 sL1InFS.ps sL1InFS.rs sL1InFS.ex (a, b, c) = sL1In a b c := by kernel_rfl
theorem sL1In_sound : Sound Tryz.prog sL1InFS :=
  sound_of_den (E := { tt := tt, fs := [] }) (.nil tt_ok) mixed_ok [] (fn := Tryz.f45) (by kernel_rfl) fun x => sL1In_den x.1 x.2.1 x.2.2
theorem sL41Seen_callable : callable Tryz.prog 69 = true := by kernel_rfl
theorem sL41Seen_den (a : List Int) : denF { tt := tt, fs := [sL1InFS] } [(2, { n := 19, its := [.t 0 (.ro (.list (.base .int))), .t 3 (.ro (.base .int))], boxes := [], ptrs := [] })] Tryz.f69 sL41SeenFS.ps sL41SeenFS.rs sL41SeenFS.ex a = sL41Seen a := by kernel_rfl
theorem sL41Seen_sound : Sound Tryz.prog sL41SeenFS :=
  sound_of_den (E := { tt := tt, fs := [sL1InFS] }) (.cons sL1In_callable sL1In_sound (.nil tt_ok)) mixed_ok [(2, { n := 19, its := [.t 0 (.ro (.list (.base .int))), .t 3 (.ro (.base .int))], boxes := [], ptrs := [] })] (fn := Tryz.f69) (by kernel_rfl) fun x => sL41Seen_den x
theorem sIsValidOp_callable : callable Tryz.prog 43 = true := by kernel_rfl
theorem sIsValidOp_den (a : GOp) : denF { tt := tt, fs := [sL1InFS, sL41SeenFS] } [] Tryz.f43 sIsValidOpFS.ps sIsValidOpFS.rs sIsValidOpFS.ex a = sIsValidOp a := by kernel_rfl
theorem sIsValidOp_sound : Sound Tryz.prog sIsValidOpFS :=
  sound_of_den (E := { tt := tt, fs := [sL1InFS, sL41SeenFS] }) (.cons sL1In_callable sL1In_sound (.cons sL41Seen_callable sL41Seen_sound (.nil tt_ok))) mixed_ok [] (fn := Tryz.f43) (by kernel_rfl) fun x => sIsValidOp_den x
theorem sIsValidLog_callable : callable Tryz.prog 19 = true := by kernel_rfl
theorem sIsValidLog_den (a : List GOp) : denF { tt := tt, fs := [sOpBeforeFS, sIsValidOpFS] } [(2, { n := 36, its := [.t 0 (.ro (.list (.base .op))), .t 3 (.ro (.base .int))], boxes := [], ptrs := [] })] Tryz.f19 sIsValidLogFS.ps sIsValidLogFS.rs sIsValidLogFS.ex a = sIsValidLog a := by kernel_rfl
theorem sIsValidLog_sound : Sound Tryz.prog sIsValidLogFS :=
  sound_of_den (E := { tt := tt, fs := [sOpBeforeFS, sIsValidOpFS] }) (.cons sOpBefore_callable sOpBefore_sound (.cons sIsValidOp_callable sIsValidOp_sound (.nil tt_ok))) mixed_ok [(2, { n := 36, its := [.t 0 (.ro (.list (.base .op))), .t 3 (.ro (.base .int))], boxes := [], ptrs := [] })] (fn := Tryz.f19) (by kernel_rfl) fun x => sIsValidLog_den x
theorem sIsValidReplica_callable : callable Tryz.prog 21 = true := by kernel_rfl
theorem sIsValidReplica_den (a : GReplica) : denF { tt := tt, fs := [sIsValidLogFS, sL1InFS] } [] Tryz.f21 sIsValidReplicaFS.ps sIsValidReplicaFS.rs sIsValidReplicaFS.ex a = sIsValidReplica a := by kernel_rfl
theorem sIsValidReplica_sound : Sound Tryz.prog sIsValidReplicaFS :=
  sound_of_den (E := { tt := tt, fs := [sIsValidLogFS, sL1InFS] }) (.cons sIsValidLog_callable sIsValidLog_sound (.cons sL1In_callable sL1In_sound (.nil tt_ok))) mixed_ok [] (fn := Tryz.f21) (by kernel_rfl) fun x => sIsValidReplica_den x
theorem sL41Ops_callable : callable Tryz.prog 46 = true := by kernel_rfl
theorem sL41Ops_den (a : List GOp) : denF { tt := tt, fs := [sL41CopyFS] } [(3, { n := 21, its := [.t 0 (.ro (.list (.base .op))), .t 3 (.own (.base .op) true true 0), .t 4 (.ro (.base .int))], boxes := [], ptrs := [] })] Tryz.f46 sL41OpsFS.ps sL41OpsFS.rs sL41OpsFS.ex a = sL41Ops a := by kernel_rfl
theorem sL41Ops_sound : Sound Tryz.prog sL41OpsFS :=
  sound_of_den (E := { tt := tt, fs := [sL41CopyFS] }) (.cons sL41Copy_callable sL41Copy_sound (.nil tt_ok)) mixed_ok [(3, { n := 21, its := [.t 0 (.ro (.list (.base .op))), .t 3 (.own (.base .op) true true 0), .t 4 (.ro (.base .int))], boxes := [], ptrs := [] })] (fn := Tryz.f46) (by kernel_rfl) fun x => sL41Ops_den x
theorem sL43Copy_callable : callable Tryz.prog 22 = true := by kernel_rfl
theorem sL43Copy_den (a : GReplica) : denF { tt := tt, fs := [sL41OpsFS] } [] Tryz.f22 sL43CopyFS.ps sL43CopyFS.rs sL43CopyFS.ex a = sL43Copy a := by kernel_rfl
theorem sL43Copy_sound : Sound Tryz.prog sL43CopyFS :=
  sound_of_den (E := { tt := tt, fs := [sL41OpsFS] }) (.cons sL41Ops_callable sL41Ops_sound (.nil tt_ok)) mixed_ok [] (fn := Tryz.f22) (by kernel_rfl) fun x => sL43Copy_den x
theorem sPull_callable : callable Tryz.prog 6 = true := by kernel_rfl
theorem sPull_den (a : GReplica) (b : GReplica) : denS { tt := tt, fs := [sIsValidReplicaFS, sL43CopyFS], ss := [sMergeOpsFS] } [] Tryz.f6 sPullFS.ps sPullFS.rs (a, b) = sPull a b := by kernel_rfl
theorem sPull_sound : SSound Tryz.prog sPullFS :=
  ssound_of_den (E := { tt := tt, fs := [sIsValidReplicaFS, sL43CopyFS], ss := [sMergeOpsFS] }) (.cons sIsValidReplica_callable sIsValidReplica_sound (.cons sL43Copy_callable sL43Copy_sound (.consS sMergeOps_callable sMergeOps_sound (.nil tt_ok)))) mixed_ok [] (fn := Tryz.f6) (by kernel_rfl) fun x => sPull_den x.1 x.2
theorem toIntS_callable : callable Tryz.prog 73 = true := by kernel_rfl
theorem toIntS_den (a : List Int) : denF { tt := tt, fs := [] } [(3, { n := 22, its := [.t 0 (.ro (.list (.base .int))), .t 3 (.own (.base .int) true true 0), .t 4 (.ro (.base .int))], boxes := [], ptrs := [] })] Tryz.f73 toIntSFS.ps toIntSFS.rs toIntSFS.ex a = toIntS a := by kernel_rfl
theorem toIntS_sound : Sound Tryz.prog toIntSFS :=
  sound_of_den (E := { tt := tt, fs := [] }) (.nil tt_ok) mixed_ok [(3, { n := 22, its := [.t 0 (.ro (.list (.base .int))), .t 3 (.own (.base .int) true true 0), .t 4 (.ro (.base .int))], boxes := [], ptrs := [] })] (fn := Tryz.f73) (by kernel_rfl) fun x => toIntS_den x
theorem toCell_callable : callable Tryz.prog 110 = true := by kernel_rfl
theorem toCell_den (a : GCell) : denF { tt := tt, fs := [] } [] Tryz.f110 toCellFS.ps toCellFS.rs toCellFS.ex a = toCell a := by kernel_rfl
theorem toCell_sound : Sound Tryz.prog toCellFS :=
  sound_of_den (E := { tt := tt, fs := [] }) (.nil tt_ok) mixed_ok [] (fn := Tryz.f110) (by kernel_rfl) fun x => toCell_den x
theorem toEdit_callable : callable Tryz.prog 74 = true := by kernel_rfl
theorem toEdit_den (a : GEdit) : denF { tt := tt, fs := [toCellFS] } [] Tryz.f74 toEditFS.ps toEditFS.rs toEditFS.ex a = toEdit a := by kernel_rfl
theorem toEdit_sound : Sound Tryz.prog toEditFS :=
  sound_of_den (E := { tt := tt, fs := [toCellFS] }) (.cons toCell_callable toCell_sound (.nil tt_ok)) mixed_ok [] (fn := Tryz.f74) (by kernel_rfl) fun x => toEdit_den x
theorem toStringS_callable : callable Tryz.prog 141 = true := by kernel_rfl
theorem toStringS_den (a : List Str) : denF { tt := tt, fs := [] } [(3, { n := 22, its := [.t 0 (.ro (.list (.base .str))), .t 3 (.own (.base .str) true true 0), .t 4 (.ro (.base .int))], boxes := [], ptrs := [] })] Tryz.f141 toStringSFS.ps toStringSFS.rs toStringSFS.ex a = toStringS a := by kernel_rfl
theorem toStringS_sound : Sound Tryz.prog toStringSFS :=
  sound_of_den (E := { tt := tt, fs := [] }) (.nil tt_ok) mixed_ok [(3, { n := 22, its := [.t 0 (.ro (.list (.base .str))), .t 3 (.own (.base .str) true true 0), .t 4 (.ro (.base .int))], boxes := [], ptrs := [] })] (fn := Tryz.f141) (by kernel_rfl) fun x => toStringS_den x
theorem toOrigin_callable : callable Tryz.prog 174 = true := by kernel_rfl
theorem toOrigin_den (a : GOrigin) : denF { tt := tt, fs := [] } [] Tryz.f174 toOriginFS.ps toOriginFS.rs toOriginFS.ex a = toOrigin a := by kernel_rfl
theorem toOrigin_sound : Sound Tryz.prog toOriginFS :=
  sound_of_den (E := { tt := tt, fs := [] }) (.nil tt_ok) mixed_ok [] (fn := Tryz.f174) (by kernel_rfl) fun x => toOrigin_den x
theorem toOriginS_callable : callable Tryz.prog 171 = true := by kernel_rfl
theorem toOriginS_den (a : List GOrigin) : denF { tt := tt, fs := [toOriginFS] } [(3, { n := 23, its := [.t 0 (.ro (.list (.base .origin))), .t 3 (.own (.base .origin) true true 0), .t 4 (.ro (.base .int))], boxes := [], ptrs := [] })] Tryz.f171 toOriginSFS.ps toOriginSFS.rs toOriginSFS.ex a = toOriginS a := by kernel_rfl
theorem toOriginS_sound : Sound Tryz.prog toOriginSFS :=
  sound_of_den (E := { tt := tt, fs := [toOriginFS] }) (.cons toOrigin_callable toOrigin_sound (.nil tt_ok)) mixed_ok [(3, { n := 23, its := [.t 0 (.ro (.list (.base .origin))), .t 3 (.own (.base .origin) true true 0), .t 4 (.ro (.base .int))], boxes := [], ptrs := [] })] (fn := Tryz.f171) (by kernel_rfl) fun x => toOriginS_den x
theorem toRow_callable : callable Tryz.prog 160 = true := by kernel_rfl
theorem toRow_den (a : GRow) : denF { tt := tt, fs := [toIntSFS, toOriginSFS] } [] Tryz.f160 toRowFS.ps toRowFS.rs toRowFS.ex a = toRow a := by kernel_rfl
theorem toRow_sound : Sound Tryz.prog toRowFS :=
  sound_of_den (E := { tt := tt, fs := [toIntSFS, toOriginSFS] }) (.cons toIntS_callable toIntS_sound (.cons toOriginS_callable toOriginS_sound (.nil tt_ok))) mixed_ok [] (fn := Tryz.f160) (by kernel_rfl) fun x => toRow_den x
theorem toRowS_callable : callable Tryz.prog 142 = true := by kernel_rfl
theorem toRowS_den (a : List GRow) : denF { tt := tt, fs := [toRowFS] } [(3, { n := 23, its := [.t 0 (.ro (.list (.base .row))), .t 3 (.own (.base .row) true true 0), .t 4 (.ro (.base .int))], boxes := [], ptrs := [] })] Tryz.f142 toRowSFS.ps toRowSFS.rs toRowSFS.ex a = toRowS a := by kernel_rfl
theorem toRowS_sound : Sound Tryz.prog toRowSFS :=
  sound_of_den (E := { tt := tt, fs := [toRowFS] }) (.cons toRow_callable toRow_sound (.nil tt_ok)) mixed_ok [(3, { n := 23, its := [.t 0 (.ro (.list (.base .row))), .t 3 (.own (.base .row) true true 0), .t 4 (.ro (.base .int))], boxes := [], ptrs := [] })] (fn := Tryz.f142) (by kernel_rfl) fun x => toRowS_den x
theorem toValue_callable : callable Tryz.prog 127 = true := by kernel_rfl
theorem toValueS_callable : callable Tryz.prog 140 = true := by kernel_rfl
theorem toValue_den (rtoValue : GVal → Option (GVal)) (rtoValueS : (List GVal) → Option ((List GVal))) (a : GVal) : denF { tt := tt, fs := [toStringSFS, toRowSFS, { fid := 127, ps := [⟨true, .base .val⟩], rs := [⟨true, .base .val⟩], ex := true, fn := fun x => rtoValue x }, { fid := 140, ps := [⟨false, .list (.base .val)⟩], rs := [⟨false, .list (.base .val)⟩], ex := true, fn := fun x => rtoValueS x }] } [] Tryz.f127 toValueFS.ps toValueFS.rs toValueFS.ex a = toValueB rtoValue rtoValueS a := by kernel_rfl
theorem toValueS_den (rtoValue : GVal → Option (GVal)) (rtoValueS : (List GVal) → Option ((List GVal))) (a : List GVal) : denF { tt := tt, fs := [toStringSFS, toRowSFS, { fid := 127, ps := [⟨true, .base .val⟩], rs := [⟨true, .base .val⟩], ex := true, fn := fun x => rtoValue x }, { fid := 140, ps := [⟨false, .list (.base .val)⟩], rs := [⟨false, .list (.base .val)⟩], ex := true, fn := fun x => rtoValueS x }] } [(3, { n := 23, its := [.t 0 (.ro (.list (.base .val))), .t 3 (.own (.base .val) true true 0), .t 4 (.ro (.base .int))], boxes := [], ptrs := [] })] Tryz.f140 toValueSFS.ps toValueSFS.rs toValueSFS.ex a = toValueSB rtoValue rtoValueS a := by kernel_rfl
theorem toValueG_sound : ∀ n, Sound Tryz.prog (toValueFSN n) ∧ Sound Tryz.prog (toValueSFSN n)
  | 0 => ⟨(fun w S args x y h => by cases h), (fun w S args x y h => by cases h)⟩
  | n + 1 => by
    have ih := toValueG_sound n
    exact ⟨sound_of_den (s := toValueFSN (n + 1)) (E := { tt := tt, fs := [toStringSFS, toRowSFS, toValueFSN n, toValueSFSN n] }) (.cons toStringS_callable toStringS_sound (.cons toRowS_callable toRowS_sound (.cons toValue_callable ih.1 (.cons toValueS_callable ih.2 (.nil tt_ok))))) mixed_ok [] (fn := Tryz.f127) (by kernel_rfl) fun x => toValue_den _ _ x, sound_of_den (s := toValueSFSN (n + 1)) (E := { tt := tt, fs := [toStringSFS, toRowSFS, toValueFSN n, toValueSFSN n] }) (.cons toStringS_callable toStringS_sound (.cons toRowS_callable toRowS_sound (.cons toValue_callable ih.1 (.cons toValueS_callable ih.2 (.nil tt_ok))))) mixed_ok [(3, { n := 23, its := [.t 0 (.ro (.list (.base .val))), .t 3 (.own (.base .val) true true 0), .t 4 (.ro (.base .int))], boxes := [], ptrs := [] })] (fn := Tryz.f140) (by kernel_rfl) fun x => toValueS_den _ _ x⟩
theorem toValue_sound : Sound Tryz.prog toValueFS := fun w S args x y h => (toValueG_sound (siz (α := GVal) x + 1)).1 w S args x y h
theorem toValueS_sound : Sound Tryz.prog toValueSFS := fun w S args x y h => (toValueG_sound (siz (α := List GVal) x + 1)).2 w S args x y h
theorem toRead_callable : callable Tryz.prog 111 = true := by kernel_rfl
theorem toRead_den (a : GRead) : denF { tt := tt, fs := [toValueFS] } [] Tryz.f111 toReadFS.ps toReadFS.rs toReadFS.ex a = toRead a := by kernel_rfl
theorem toRead_sound : Sound Tryz.prog toReadFS :=
  sound_of_den (E := { tt := tt, fs := [toValueFS] }) (.cons toValue_callable toValue_sound (.nil tt_ok)) mixed_ok [] (fn := Tryz.f111) (by kernel_rfl) fun x => toRead_den x
theorem toReadS_callable : callable Tryz.prog 75 = true := by kernel_rfl
theorem toReadS_den (a : List GRead) : denF { tt := tt, fs := [toReadFS] } [(3, { n := 23, its := [.t 0 (.ro (.list (.base .read))), .t 3 (.own (.base .read) true true 0), .t 4 (.ro (.base .int))], boxes := [], ptrs := [] })] Tryz.f75 toReadSFS.ps toReadSFS.rs toReadSFS.ex a = toReadS a := by kernel_rfl
theorem toReadS_sound : Sound Tryz.prog toReadSFS :=
  sound_of_den (E := { tt := tt, fs := [toReadFS] }) (.cons toRead_callable toRead_sound (.nil tt_ok)) mixed_ok [(3, { n := 23, its := [.t 0 (.ro (.list (.base .read))), .t 3 (.own (.base .read) true true 0), .t 4 (.ro (.base .int))], boxes := [], ptrs := [] })] (fn := Tryz.f75) (by kernel_rfl) fun x => toReadS_den x
theorem toOp_callable : callable Tryz.prog 47 = true := by kernel_rfl
theorem toOp_den (a : GOp) : denF { tt := tt, fs := [toIntSFS, toEditFS, toReadSFS] } [] Tryz.f47 toOpFS.ps toOpFS.rs toOpFS.ex a = toOp a := by kernel_rfl
theorem toOp_sound : Sound Tryz.prog toOpFS :=
  sound_of_den (E := { tt := tt, fs := [toIntSFS, toEditFS, toReadSFS] }) (.cons toIntS_callable toIntS_sound (.cons toEdit_callable toEdit_sound (.cons toReadS_callable toReadS_sound (.nil tt_ok)))) mixed_ok [] (fn := Tryz.f47) (by kernel_rfl) fun x => toOp_den x
theorem toOpS_callable : callable Tryz.prog 23 = true := by kernel_rfl
theorem toOpS_den (a : List GOp) : denF { tt := tt, fs := [toOpFS] } [(3, { n := 23, its := [.t 0 (.ro (.list (.base .op))), .t 3 (.own (.base .op) true true 0), .t 4 (.ro (.base .int))], boxes := [], ptrs := [] })] Tryz.f23 toOpSFS.ps toOpSFS.rs toOpSFS.ex a = toOpS a := by kernel_rfl
theorem toOpS_sound : Sound Tryz.prog toOpSFS :=
  sound_of_den (E := { tt := tt, fs := [toOpFS] }) (.cons toOp_callable toOp_sound (.nil tt_ok)) mixed_ok [(3, { n := 23, its := [.t 0 (.ro (.list (.base .op))), .t 3 (.own (.base .op) true true 0), .t 4 (.ro (.base .int))], boxes := [], ptrs := [] })] (fn := Tryz.f23) (by kernel_rfl) fun x => toOpS_den x
theorem toReplica_callable : callable Tryz.prog 7 = true := by kernel_rfl
theorem toReplica_den (a : GReplica) : denF { tt := tt, fs := [toOpSFS] } [] Tryz.f7 toReplicaFS.ps toReplicaFS.rs toReplicaFS.ex a = toReplica a := by kernel_rfl
theorem toReplica_sound : Sound Tryz.prog toReplicaFS :=
  sound_of_den (E := { tt := tt, fs := [toOpSFS] }) (.cons toOpS_callable toOpS_sound (.nil tt_ok)) mixed_ok [] (fn := Tryz.f7) (by kernel_rfl) fun x => toReplica_den x
theorem iCopyRow_callable : callable Tryz.prog 122 = true := by kernel_rfl
theorem iCopyRow_den (a : GRow) : denF { tt := tt, fs := [] } [] Tryz.f122 iCopyRowFS.ps iCopyRowFS.rs iCopyRowFS.ex a = iCopyRow a := by kernel_rfl
theorem iCopyRow_sound : Sound Tryz.prog iCopyRowFS :=
  sound_of_den (E := { tt := tt, fs := [] }) (.nil tt_ok) mixed_ok [] (fn := Tryz.f122) (by kernel_rfl) fun x => iCopyRow_den x
theorem iCopyValue_callable : callable Tryz.prog 92 = true := by kernel_rfl
theorem iCopyValues_callable : callable Tryz.prog 121 = true := by kernel_rfl
theorem iCopyValue_den (riCopyValue : GVal → Option (GVal)) (riCopyValues : (List GVal) → Option ((List GVal))) (a : GVal) : denF { tt := tt, fs := [iCopyRowFS, { fid := 92, ps := [⟨true, .base .val⟩], rs := [⟨true, .base .val⟩], ex := true, fn := fun x => riCopyValue x }, { fid := 121, ps := [⟨false, .list (.base .val)⟩], rs := [⟨false, .list (.base .val)⟩], ex := true, fn := fun x => riCopyValues x }] } [(6, { n := 33, its := [.b 2 0 (.ro (.base .int)), .b 2 1 (.ro (.base .int)), .b 2 2 (.ro (.base .int)), .b 2 3 (.ro (.base .str)), .b 2 4 (.own (.base .val) true true 0), .b 2 5 (.own (.base .str) true true 4), .b 2 6 (.own (.base .row) true true 6), .b 3 0 (.ro (.base .int)), .b 3 1 (.ro (.base .int)), .b 3 2 (.ro (.base .int)), .b 3 3 (.ro (.base .str)), .b 3 4 (.own (.base .val) true true 7), .b 3 5 (.own (.base .str) true true 8), .b 3 6 (.own (.base .row) true true 10), .t 18 (.ro (.list (.base .row))), .t 19 (.ro (.base .int)), .t 20 (.ro (.base .int))], boxes := [(2, 7), (3, 7)], ptrs := [(2, 2, 0), (3, 3, 0)] })] Tryz.f92 iCopyValueFS.ps iCopyValueFS.rs iCopyValueFS.ex a = iCopyValueB riCopyValue riCopyValues a := by kernel_rfl
theorem iCopyValues_den (riCopyValue : GVal → Option (GVal)) (riCopyValues : (List GVal) → Option ((List GVal))) (a : List GVal) : denF { tt := tt, fs := [iCopyRowFS, { fid := 92, ps := [⟨true, .base .val⟩], rs := [⟨true, .base .val⟩], ex := true, fn := fun x => riCopyValue x }, { fid := 121, ps := [⟨false, .list (.base .val)⟩], rs := [⟨false, .list (.base .val)⟩], ex := true, fn := fun x => riCopyValues x }] } [(3, { n := 20, its := [.t 3 (.own (.base .val) true true 0), .t 7 (.ro (.list (.base .val))), .t 8 (.ro (.base .int)), .t 9 (.ro (.base .int))], boxes := [], ptrs := [] })] Tryz.f121 iCopyValuesFS.ps iCopyValuesFS.rs iCopyValuesFS.ex a = iCopyValuesB riCopyValue riCopyValues a := by kernel_rfl
theorem iCopyValueG_sound : ∀ n, Sound Tryz.prog (iCopyValueFSN n) ∧ Sound Tryz.prog (iCopyValuesFSN n)
  | 0 => ⟨(fun w S args x y h => by cases h), (fun w S args x y h => by cases h)⟩
  | n + 1 => by
    have ih := iCopyValueG_sound n
    exact ⟨sound_of_den (s := iCopyValueFSN (n + 1)) (E := { tt := tt, fs := [iCopyRowFS, iCopyValueFSN n, iCopyValuesFSN n] }) (.cons iCopyRow_callable iCopyRow_sound (.cons iCopyValue_callable ih.1 (.cons iCopyValues_callable ih.2 (.nil tt_ok)))) mixed_ok [(6, { n := 33, its := [.b 2 0 (.ro (.base .int)), .b 2 1 (.ro (.base .int)), .b 2 2 (.ro (.base .int)), .b 2 3 (.ro (.base .str)), .b 2 4 (.own (.base .val) true true 0), .b 2 5 (.own (.base .str) true true 4), .b 2 6 (.own (.base .row) true true 6), .b 3 0 (.ro (.base .int)), .b 3 1 (.ro (.base .int)), .b 3 2 (.ro (.base .int)), .b 3 3 (.ro (.base .str)), .b 3 4 (.own (.base .val) true true 7), .b 3 5 (.own (.base .str) true true 8), .b 3 6 (.own (.base .row) true true 10), .t 18 (.ro (.list (.base .row))), .t 19 (.ro (.base .int)), .t 20 (.ro (.base .int))], boxes := [(2, 7), (3, 7)], ptrs := [(2, 2, 0), (3, 3, 0)] })] (fn := Tryz.f92) (by kernel_rfl) fun x => iCopyValue_den _ _ x, sound_of_den (s := iCopyValuesFSN (n + 1)) (E := { tt := tt, fs := [iCopyRowFS, iCopyValueFSN n, iCopyValuesFSN n] }) (.cons iCopyRow_callable iCopyRow_sound (.cons iCopyValue_callable ih.1 (.cons iCopyValues_callable ih.2 (.nil tt_ok)))) mixed_ok [(3, { n := 20, its := [.t 3 (.own (.base .val) true true 0), .t 7 (.ro (.list (.base .val))), .t 8 (.ro (.base .int)), .t 9 (.ro (.base .int))], boxes := [], ptrs := [] })] (fn := Tryz.f121) (by kernel_rfl) fun x => iCopyValues_den _ _ x⟩
theorem iCopyValue_sound : Sound Tryz.prog iCopyValueFS := fun w S args x y h => (iCopyValueG_sound (siz (α := GVal) x + 1)).1 w S args x y h
theorem iCopyValues_sound : Sound Tryz.prog iCopyValuesFS := fun w S args x y h => (iCopyValueG_sound (siz (α := List GVal) x + 1)).2 w S args x y h
theorem iCopyReads_callable : callable Tryz.prog 60 = true := by kernel_rfl
theorem iCopyReads_den (a : List GRead) : denF { tt := tt, fs := [iCopyValueFS] } [(3, { n := 23, its := [.t 3 (.own (.base .read) true true 0), .t 7 (.ro (.list (.base .read))), .t 8 (.ro (.base .int)), .t 9 (.ro (.base .int))], boxes := [], ptrs := [] })] Tryz.f60 iCopyReadsFS.ps iCopyReadsFS.rs iCopyReadsFS.ex a = iCopyReads a := by kernel_rfl
theorem iCopyReads_sound : Sound Tryz.prog iCopyReadsFS :=
  sound_of_den (E := { tt := tt, fs := [iCopyValueFS] }) (.cons iCopyValue_callable iCopyValue_sound (.nil tt_ok)) mixed_ok [(3, { n := 23, its := [.t 3 (.own (.base .read) true true 0), .t 7 (.ro (.list (.base .read))), .t 8 (.ro (.base .int)), .t 9 (.ro (.base .int))], boxes := [], ptrs := [] })] (fn := Tryz.f60) (by kernel_rfl) fun x => iCopyReads_den x
theorem iCopyOp_callable : callable Tryz.prog 31 = true := by kernel_rfl
theorem iCopyOp_den (a : GOp) : denF { tt := tt, fs := [iCopyReadsFS] } [] Tryz.f31 iCopyOpFS.ps iCopyOpFS.rs iCopyOpFS.ex a = iCopyOp a := by kernel_rfl
theorem iCopyOp_sound : Sound Tryz.prog iCopyOpFS :=
  sound_of_den (E := { tt := tt, fs := [iCopyReadsFS] }) (.cons iCopyReads_callable iCopyReads_sound (.nil tt_ok)) mixed_ok [] (fn := Tryz.f31) (by kernel_rfl) fun x => iCopyOp_den x
theorem iOpBefore_callable : callable Tryz.prog 34 = true := by kernel_rfl
theorem iOpBefore_den (a : GOp) (b : GOp) : denF { tt := tt, fs := [] } [] Tryz.f34 iOpBeforeFS.ps iOpBeforeFS.rs iOpBeforeFS.ex (a, b) = iOpBefore a b := by kernel_rfl
theorem iOpBefore_sound : Sound Tryz.prog iOpBeforeFS :=
  sound_of_den (E := { tt := tt, fs := [] }) (.nil tt_ok) mixed_ok [] (fn := Tryz.f34) (by kernel_rfl) fun x => iOpBefore_den x.1 x.2
end Go.Proofs.YtijhfajcbmpndaaGreat
