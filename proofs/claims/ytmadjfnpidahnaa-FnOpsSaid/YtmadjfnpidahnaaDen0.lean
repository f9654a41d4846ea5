/- The functions compute their models, by gen.py. -/
import Derived.Test.YtmadjfnpidahnaaEnvs
namespace Go.Proofs.Ytmadjfnpidahnaa
open Go.Abs Go.Proofs
set_option maxRecDepth 100000
theorem big_callable : callable Try.prog 8 = true := by kernel_rfl
theorem big_den (a : List Int) : denF { tt := tt, fs := [] } [] Try.f8 bigFS.ps bigFS.rs bigFS.ex a = big a := by kernel_rfl
theorem big_sound : Sound Try.prog bigFS :=
  sound_of_den (E := { tt := tt, fs := [] }) (.nil tt_ok) mixed_ok [] (fn := Try.f8) (by kernel_rfl) fun x => big_den x
theorem sL1New_callable : callable Try.prog 47 = true := by kernel_rfl
theorem sL1New_den (a : List Int) : denN { tt := tt, fs := [] } [(3, { n := 32, its := [.t 0 (.ro (.list (.base .u8))), .t 3 (.ro (.base .int)), .t 4 (.ro (.base .int))], boxes := [], ptrs := [] })] Try.f47 sL1NewFS.ps sL1NewFS.rs a = sL1New a := by kernel_rfl
theorem sL1New_sound : NSound Try.prog sL1NewFS :=
  nsound_of_den (E := { tt := tt, fs := [] }) (.nil tt_ok) mixed_ok [(3, { n := 32, its := [.t 0 (.ro (.list (.base .u8))), .t 3 (.ro (.base .int)), .t 4 (.ro (.base .int))], boxes := [], ptrs := [] })] (fn := Try.f47) (by kernel_rfl) fun x => sL1New_den x
theorem sOpBefore_callable : callable Try.prog 15 = true := by kernel_rfl
theorem sOpBefore_den (a : GOp) (b : GOp) : denF { tt := tt, fs := [] } [] Try.f15 sOpBeforeFS.ps sOpBeforeFS.rs sOpBeforeFS.ex (a, b) = sOpBefore a b := by kernel_rfl
theorem sOpBefore_sound : Sound Try.prog sOpBeforeFS :=
  sound_of_den (E := { tt := tt, fs := [] }) (.nil tt_ok) mixed_ok [] (fn := Try.f15) (by kernel_rfl) fun x => sOpBefore_den x.1 x.2
theorem sL42Place_callable : callable Try.prog 83 = true := by kernel_rfl
theorem sL42Place_den (a : List GOp) (b : GOp) : denF { tt := tt, fs := [] } [(2, { n := 31, its := [.t 0 (.ro (.list (.base .op))), .b 3 0 (.ro (.base .int)), .b 3 1 (.ro (.base .int)), .b 3 2 (.ro (.base .int)), .b 3 3 (.ro (.list (.base .int))), .b 3 4 (.ro (.base .int)), .b 3 5 (.ro (.base .int)), .b 3 6 (.ro (.base .int)), .b 3 7 (.ro (.base .int)), .b 3 8 (.ro (.base .int)), .b 3 9 (.ro (.base .str)), .b 3 10 (.ro (.base .str)), .b 3 11 (.ro (.base .int)), .b 3 12 (.ro (.base .str)), .b 3 13 (.ro (.base .str)), .b 3 14 (.ro (.base .int)), .b 3 15 (.ro (.base .int)), .b 3 16 (.ro (.list (.base .read))), .t 5 (.ro (.base .int))], boxes := [(3, 17)], ptrs := [(3, 3, 0)] })] Try.f83 sL42PlaceFS.ps sL42PlaceFS.rs sL42PlaceFS.ex (a, b) = sL42Place a b := by kernel_rfl
theorem sL42Place_sound : Sound Try.prog sL42PlaceFS :=
  sound_of_den (E := { tt := tt, fs := [] }) (.nil tt_ok) mixed_ok [(2, { n := 31, its := [.t 0 (.ro (.list (.base .op))), .b 3 0 (.ro (.base .int)), .b 3 1 (.ro (.base .int)), .b 3 2 (.ro (.base .int)), .b 3 3 (.ro (.list (.base .int))), .b 3 4 (.ro (.base .int)), .b 3 5 (.ro (.base .int)), .b 3 6 (.ro (.base .int)), .b 3 7 (.ro (.base .int)), .b 3 8 (.ro (.base .int)), .b 3 9 (.ro (.base .str)), .b 3 10 (.ro (.base .str)), .b 3 11 (.ro (.base .int)), .b 3 12 (.ro (.base .str)), .b 3 13 (.ro (.base .str)), .b 3 14 (.ro (.base .int)), .b 3 15 (.ro (.base .int)), .b 3 16 (.ro (.list (.base .read))), .t 5 (.ro (.base .int))], boxes := [(3, 17)], ptrs := [(3, 3, 0)] })] (fn := Try.f83) (by kernel_rfl) fun x => sL42Place_den x.1 x.2
theorem sL3Row_callable : callable Try.prog 212 = true := by kernel_rfl
theorem sL3Row_den (a : GRow) : denF { tt := tt, fs := [] } [] Try.f212 sL3RowFS.ps sL3RowFS.rs sL3RowFS.ex a = sL3Row a := by kernel_rfl
theorem sL3Row_sound : Sound Try.prog sL3RowFS :=
  sound_of_den (E := { tt := tt, fs := [] }) (.nil tt_ok) mixed_ok [] (fn := Try.f212) (by kernel_rfl) fun x => sL3Row_den x
theorem sL3Copy_callable : callable Try.prog 192 = true := by kernel_rfl
theorem sL3Copy_den (rsL3Copy : GVal → Option (GVal)) (a : GVal) : denF { tt := tt, fs := [sL3RowFS, { fid := 192, ps := [⟨true, .base .val⟩], rs := [⟨true, .base .val⟩], ex := true, fn := fun x => rsL3Copy x }] } [(7, { n := 56, its := [.b 1 0 (.ro (.base .int)), .b 1 1 (.ro (.base .int)), .b 1 2 (.ro (.base .int)), .b 1 3 (.ro (.base .str)), .b 1 4 (.ro (.list (.base .val))), .b 1 5 (.ro (.list (.base .str))), .b 1 6 (.ro (.list (.base .row))), .b 2 0 (.ro (.base .int)), .b 2 1 (.ro (.base .int)), .b 2 2 (.ro (.base .int)), .b 2 3 (.ro (.base .str)), .b 2 4 (.own (.base .val) true true 0), .b 2 5 (.own (.base .str) true true 4), .b 2 6 (.own (.base .row) true true 5), .b 3 0 (.ro (.base .int)), .b 3 1 (.ro (.base .int)), .b 3 2 (.ro (.base .int)), .b 3 3 (.ro (.base .str)), .b 3 4 (.own (.base .val) true true 6), .b 3 5 (.own (.base .str) true true 7), .b 3 6 (.own (.base .row) true true 8), .t 5 (.ro (.base .int))], boxes := [(1, 7), (2, 7), (3, 7)], ptrs := [(1, 1, 0), (2, 2, 0), (3, 3, 0)] }), (3, { n := 56, its := [.b 1 0 (.ro (.base .int)), .b 1 1 (.ro (.base .int)), .b 1 2 (.ro (.base .int)), .b 1 3 (.ro (.base .str)), .b 1 4 (.ro (.list (.base .val))), .b 1 5 (.ro (.list (.base .str))), .b 1 6 (.ro (.list (.base .row))), .b 2 0 (.ro (.base .int)), .b 2 1 (.ro (.base .int)), .b 2 2 (.ro (.base .int)), .b 2 3 (.ro (.base .str)), .b 2 4 (.own (.base .val) true true 0), .b 2 5 (.own (.base .str) true true 4), .b 2 6 (.own (.base .row) true true 5), .b 3 0 (.ro (.base .int)), .b 3 1 (.ro (.base .int)), .b 3 2 (.ro (.base .int)), .b 3 3 (.ro (.base .str)), .b 3 4 (.own (.base .val) true true 6), .b 3 5 (.own (.base .str) true true 7), .b 3 6 (.own (.base .row) true true 8), .t 4 (.ro (.base .int))], boxes := [(1, 7), (2, 7), (3, 7)], ptrs := [(1, 1, 0), (2, 2, 0), (3, 3, 0)] })] Try.f192 sL3CopyFS.ps sL3CopyFS.rs sL3CopyFS.ex a = sL3CopyB rsL3Copy a := by kernel_rfl
theorem sL3CopyG_sound : ∀ n, Sound Try.prog (sL3CopyFSN n)
  | 0 => (fun w S args x y h => by cases h)
  | n + 1 => by
    have ih := sL3CopyG_sound n
    exact sound_of_den (s := sL3CopyFSN (n + 1)) (E := { tt := tt, fs := [sL3RowFS, sL3CopyFSN n] }) (.cons sL3Row_callable sL3Row_sound (.cons sL3Copy_callable ih (.nil tt_ok))) mixed_ok [(7, { n := 56, its := [.b 1 0 (.ro (.base .int)), .b 1 1 (.ro (.base .int)), .b 1 2 (.ro (.base .int)), .b 1 3 (.ro (.base .str)), .b 1 4 (.ro (.list (.base .val))), .b 1 5 (.ro (.list (.base .str))), .b 1 6 (.ro (.list (.base .row))), .b 2 0 (.ro (.base .int)), .b 2 1 (.ro (.base .int)), .b 2 2 (.ro (.base .int)), .b 2 3 (.ro (.base .str)), .b 2 4 (.own (.base .val) true true 0), .b 2 5 (.own (.base .str) true true 4), .b 2 6 (.own (.base .row) true true 5), .b 3 0 (.ro (.base .int)), .b 3 1 (.ro (.base .int)), .b 3 2 (.ro (.base .int)), .b 3 3 (.ro (.base .str)), .b 3 4 (.own (.base .val) true true 6), .b 3 5 (.own (.base .str) true true 7), .b 3 6 (.own (.base .row) true true 8), .t 5 (.ro (.base .int))], boxes := [(1, 7), (2, 7), (3, 7)], ptrs := [(1, 1, 0), (2, 2, 0), (3, 3, 0)] }), (3, { n := 56, its := [.b 1 0 (.ro (.base .int)), .b 1 1 (.ro (.base .int)), .b 1 2 (.ro (.base .int)), .b 1 3 (.ro (.base .str)), .b 1 4 (.ro (.list (.base .val))), .b 1 5 (.ro (.list (.base .str))), .b 1 6 (.ro (.list (.base .row))), .b 2 0 (.ro (.base .int)), .b 2 1 (.ro (.base .int)), .b 2 2 (.ro (.base .int)), .b 2 3 (.ro (.base .str)), .b 2 4 (.own (.base .val) true true 0), .b 2 5 (.own (.base .str) true true 4), .b 2 6 (.own (.base .row) true true 5), .b 3 0 (.ro (.base .int)), .b 3 1 (.ro (.base .int)), .b 3 2 (.ro (.base .int)), .b 3 3 (.ro (.base .str)), .b 3 4 (.own (.base .val) true true 6), .b 3 5 (.own (.base .str) true true 7), .b 3 6 (.own (.base .row) true true 8), .t 4 (.ro (.base .int))], boxes := [(1, 7), (2, 7), (3, 7)], ptrs := [(1, 1, 0), (2, 2, 0), (3, 3, 0)] })] (fn := Try.f192) (by kernel_rfl) fun x => sL3Copy_den _ x
theorem sL3Copy_sound : Sound Try.prog sL3CopyFS := fun w S args x y h => (sL3CopyG_sound (siz (α := GVal) x + 1)) w S args x y h
theorem sL16Read_callable : callable Try.prog 162 = true := by kernel_rfl
theorem sL16Read_den (a : GRead) : denF { tt := tt, fs := [sL3CopyFS] } [] Try.f162 sL16ReadFS.ps sL16ReadFS.rs sL16ReadFS.ex a = sL16Read a := by kernel_rfl
theorem sL16Read_sound : Sound Try.prog sL16ReadFS :=
  sound_of_den (E := { tt := tt, fs := [sL3CopyFS] }) (.cons sL3Copy_callable sL3Copy_sound (.nil tt_ok)) mixed_ok [] (fn := Try.f162) (by kernel_rfl) fun x => sL16Read_den x
theorem sL16Reads_callable : callable Try.prog 116 = true := by kernel_rfl
theorem sL16Reads_den (a : List GRead) : denF { tt := tt, fs := [sL16ReadFS] } [(3, { n := 21, its := [.t 0 (.ro (.list (.base .read))), .t 3 (.own (.base .read) true true 0), .t 4 (.ro (.base .int))], boxes := [], ptrs := [] })] Try.f116 sL16ReadsFS.ps sL16ReadsFS.rs sL16ReadsFS.ex a = sL16Reads a := by kernel_rfl
theorem sL16Reads_sound : Sound Try.prog sL16ReadsFS :=
  sound_of_den (E := { tt := tt, fs := [sL16ReadFS] }) (.cons sL16Read_callable sL16Read_sound (.nil tt_ok)) mixed_ok [(3, { n := 21, its := [.t 0 (.ro (.list (.base .read))), .t 3 (.own (.base .read) true true 0), .t 4 (.ro (.base .int))], boxes := [], ptrs := [] })] (fn := Try.f116) (by kernel_rfl) fun x => sL16Reads_den x
theorem sL41Copy_callable : callable Try.prog 84 = true := by kernel_rfl
theorem sL41Copy_den (a : GOp) : denF { tt := tt, fs := [sL16ReadsFS] } [] Try.f84 sL41CopyFS.ps sL41CopyFS.rs sL41CopyFS.ex a = sL41Copy a := by kernel_rfl
theorem sL41Copy_sound : Sound Try.prog sL41CopyFS :=
  sound_of_den (E := { tt := tt, fs := [sL16ReadsFS] }) (.cons sL16Reads_callable sL16Reads_sound (.nil tt_ok)) mixed_ok [] (fn := Try.f84) (by kernel_rfl) fun x => sL41Copy_den x
theorem sMergeOps_callable : callable Try.prog 41 = true := by kernel_rfl
theorem sMergeOps_den (a : List GOp) (b : List GOp) : denS { tt := tt, fs := [sOpBeforeFS, sL42PlaceFS, sL41CopyFS] } [(8, { n := 65, its := [.t 5 (.own (.base .op) false true 0), .t 6 (.own (.base .op) false true 1), .t 7 (.ro (.base .int)), .t 8 (.ro (.base .int))], boxes := [], ptrs := [] }), (4, { n := 65, its := [.t 5 (.own (.base .op) false true 0), .t 6 (.own (.base .op) false true 1), .t 7 (.ro (.base .int))], boxes := [], ptrs := [] })] Try.f41 sMergeOpsFS.ps sMergeOpsFS.rs (a, b) = sMergeOps a b := by kernel_rfl
theorem sMergeOps_sound : SSound Try.prog sMergeOpsFS :=
  ssound_of_den (E := { tt := tt, fs := [sOpBeforeFS, sL42PlaceFS, sL41CopyFS] }) (.cons sOpBefore_callable sOpBefore_sound (.cons sL42Place_callable sL42Place_sound (.cons sL41Copy_callable sL41Copy_sound (.nil tt_ok)))) mixed_ok [(8, { n := 65, its := [.t 5 (.own (.base .op) false true 0), .t 6 (.own (.base .op) false true 1), .t 7 (.ro (.base .int)), .t 8 (.ro (.base .int))], boxes := [], ptrs := [] }), (4, { n := 65, its := [.t 5 (.own (.base .op) false true 0), .t 6 (.own (.base .op) false true 1), .t 7 (.ro (.base .int))], boxes := [], ptrs := [] })] (fn := Try.f41) (by kernel_rfl) fun x => sMergeOps_den x.1 x.2
theorem sL1Byte_callable : callable Try.prog 144 = true := by kernel_rfl
theorem sL1Byte_den (a : GCur) : denB { tt := tt, fs := [] } [] Try.f144 sL1ByteFS.ps sL1ByteFS.rs sL1ByteFS.sh a = sL1Byte a := by kernel_rfl
theorem sL1Byte_sound : BSound Try.prog sL1ByteFS :=
  bsound_of_den (E := { tt := tt, fs := [] }) (.nil tt_ok) mixed_ok [] (fn := Try.f144) (by kernel_rfl) fun x => sL1Byte_den x
theorem sL1Below_callable : callable Try.prog 93 = true := by kernel_rfl
theorem sL1Below_den (a : GCur) (b : Int) : denB { tt := tt, fs := [], bs := [sL1ByteFS] } [] Try.f93 sL1BelowFS.ps sL1BelowFS.rs sL1BelowFS.sh (a, b) = sL1Below a b := by kernel_rfl
theorem sL1Below_sound : BSound Try.prog sL1BelowFS :=
  bsound_of_den (E := { tt := tt, fs := [], bs := [sL1ByteFS] }) (.consB sL1Byte_callable sL1Byte_sound (.nil tt_ok)) mixed_ok [] (fn := Try.f93) (by kernel_rfl) fun x => sL1Below_den x.1 x.2
theorem sL1Once_callable : callable Try.prog 49 = true := by kernel_rfl
theorem sL1Once_den (a : GCur) (b : Int) : denB { tt := tt, fs := [], bs := [sL1BelowFS] } [] Try.f49 sL1OnceFS.ps sL1OnceFS.rs sL1OnceFS.sh (a, b) = sL1Once a b := by kernel_rfl
theorem sL1Once_sound : BSound Try.prog sL1OnceFS :=
  bsound_of_den (E := { tt := tt, fs := [], bs := [sL1BelowFS] }) (.consB sL1Below_callable sL1Below_sound (.nil tt_ok)) mixed_ok [] (fn := Try.f49) (by kernel_rfl) fun x => sL1Once_den x.1 x.2
theorem sL1Max_callable : callable Try.prog 158 = true := by kernel_rfl
theorem sL1Max_den (a : Int) (b : Int) : denF { tt := tt, fs := [] } [] Try.f158 sL1MaxFS.ps sL1MaxFS.rs sL1MaxFS.ex (a, b) = sL1Max a b := by kernel_rfl
theorem sL1Max_sound : Sound Try.prog sL1MaxFS :=
  sound_of_den (E := { tt := tt, fs := [] }) (.nil tt_ok) mixed_ok [] (fn := Try.f158) (by kernel_rfl) fun x => sL1Max_den x.1 x.2
theorem sLastTime_callable : callable Try.prog 145 = true := by kernel_rfl
theorem sLastTime_den (a : List GOp) : denF { tt := tt, fs := [sL1MaxFS] } [(3, { n := 19, its := [.t 0 (.ro (.list (.base .op))), .t 3 (.ro (.base .int)), .t 4 (.ro (.base .int))], boxes := [], ptrs := [] })] Try.f145 sLastTimeFS.ps sLastTimeFS.rs sLastTimeFS.ex a = sLastTime a := by kernel_rfl
theorem sLastTime_sound : Sound Try.prog sLastTimeFS :=
  sound_of_den (E := { tt := tt, fs := [sL1MaxFS] }) (.cons sL1Max_callable sL1Max_sound (.nil tt_ok)) mixed_ok [(3, { n := 19, its := [.t 0 (.ro (.list (.base .op))), .t 3 (.ro (.base .int)), .t 4 (.ro (.base .int))], boxes := [], ptrs := [] })] (fn := Try.f145) (by kernel_rfl) fun x => sLastTime_den x
theorem sL1PickInt_callable : callable Try.prog 95 = true := by kernel_rfl
theorem sL1PickInt_den (a : GCur) (b : List Int) : denB { tt := tt, fs := [], bs := [sL1BelowFS] } [] Try.f95 sL1PickIntFS.ps sL1PickIntFS.rs sL1PickIntFS.sh (a, b) = sL1PickInt a b := by kernel_rfl
theorem sL1PickInt_sound : BSound Try.prog sL1PickIntFS :=
  bsound_of_den (E := { tt := tt, fs := [], bs := [sL1BelowFS] }) (.consB sL1Below_callable sL1Below_sound (.nil tt_ok)) mixed_ok [] (fn := Try.f95) (by kernel_rfl) fun x => sL1PickInt_den x.1 x.2
theorem sL1Pick_callable : callable Try.prog 148 = true := by kernel_rfl
theorem sL1Pick_den (a : GCur) (b : List Str) : denB { tt := tt, fs := [], bs := [sL1BelowFS] } [] Try.f148 sL1PickFS.ps sL1PickFS.rs sL1PickFS.sh (a, b) = sL1Pick a b := by kernel_rfl
theorem sL1Pick_sound : BSound Try.prog sL1PickFS :=
  bsound_of_den (E := { tt := tt, fs := [], bs := [sL1BelowFS] }) (.consB sL1Below_callable sL1Below_sound (.nil tt_ok)) mixed_ok [] (fn := Try.f148) (by kernel_rfl) fun x => sL1Pick_den x.1 x.2
theorem sFormatInt_callable : callable Try.prog 199 = true := by kernel_rfl
theorem sFormatInt_den (a : Int) : denF { tt := tt, fs := [] } [(5, { n := 31, its := [.t 0 (.ro (.base .int)), .t 3 (.ro (.base .bool)), .t 4 (.ro (.base .str))], boxes := [], ptrs := [] })] Try.f199 sFormatIntFS.ps sFormatIntFS.rs sFormatIntFS.ex a = sFormatInt a := by kernel_rfl
theorem sFormatInt_sound : Sound Try.prog sFormatIntFS :=
  sound_of_den (E := { tt := tt, fs := [] }) (.nil tt_ok) mixed_ok [(5, { n := 31, its := [.t 0 (.ro (.base .int)), .t 3 (.ro (.base .bool)), .t 4 (.ro (.base .str))], boxes := [], ptrs := [] })] (fn := Try.f199) (by kernel_rfl) fun x => sFormatInt_den x
theorem sL10Num_callable : callable Try.prog 225 = true := by kernel_rfl
theorem sL10Num_den (a : Int) : denF { tt := tt, fs := [] } [] Try.f225 sL10NumFS.ps sL10NumFS.rs sL10NumFS.ex a = sL10Num a := by kernel_rfl
theorem sL10Num_sound : Sound Try.prog sL10NumFS :=
  sound_of_den (E := { tt := tt, fs := [] }) (.nil tt_ok) mixed_ok [] (fn := Try.f225) (by kernel_rfl) fun x => sL10Num_den x
theorem sL10Name_callable : callable Try.prog 234 = true := by kernel_rfl
theorem sL10Name_den (a : Str) : denF { tt := tt, fs := [] } [] Try.f234 sL10NameFS.ps sL10NameFS.rs sL10NameFS.ex a = sL10Name a := by kernel_rfl
theorem sL10Name_sound : Sound Try.prog sL10NameFS :=
  sound_of_den (E := { tt := tt, fs := [] }) (.nil tt_ok) mixed_ok [] (fn := Try.f234) (by kernel_rfl) fun x => sL10Name_den x
theorem sL10Leaf_callable : callable Try.prog 220 = true := by kernel_rfl
theorem sL10Leaf_den (a : GCur) (b : List Str) : denB { tt := tt, fs := [sL10NumFS, sL10NameFS], bs := [sL1BelowFS, sL1PickFS] } [] Try.f220 sL10LeafFS.ps sL10LeafFS.rs sL10LeafFS.sh (a, b) = sL10Leaf a b := by kernel_rfl
theorem sL10Leaf_sound : BSound Try.prog sL10LeafFS :=
  bsound_of_den (E := { tt := tt, fs := [sL10NumFS, sL10NameFS], bs := [sL1BelowFS, sL1PickFS] }) (.cons sL10Num_callable sL10Num_sound (.cons sL10Name_callable sL10Name_sound (.consB sL1Below_callable sL1Below_sound (.consB sL1Pick_callable sL1Pick_sound (.nil tt_ok))))) mixed_ok [] (fn := Try.f220) (by kernel_rfl) fun x => sL10Leaf_den x.1 x.2
theorem sL10Op_callable : callable Try.prog 221 = true := by kernel_rfl
theorem sL10Op_den (a : Int) (b : GExpr) (c : GExpr) : denS { tt := tt, fs := [] } [] Try.f221 sL10OpFS.ps sL10OpFS.rs (a, b, c) = sL10Op a b c := by kernel_rfl
theorem sL10Op_sound : SSound Try.prog sL10OpFS :=
  ssound_of_den (E := { tt := tt, fs := [] }) (.nil tt_ok) mixed_ok [] (fn := Try.f221) (by kernel_rfl) fun x => sL10Op_den x.1 x.2.1 x.2.2
theorem sL10List_callable : callable Try.prog 222 = true := by kernel_rfl
theorem sL10List_den (a : GCur) (b : List Str) : denB { tt := tt, fs := [sL10NumFS], bs := [sL1OnceFS, sL1BelowFS, sL10LeafFS] } [(4, { n := 34, its := [.b 0 0 (.ro (.list (.base .u8))), .b 0 1 (.ro (.base .int)), .b 0 2 (.ro (.base .int)), .t 1 (.ro (.list (.base .str))), .b 4 0 (.ro (.base .int)), .b 4 1 (.ro (.base .int)), .b 4 2 (.ro (.base .str)), .b 4 3 (.own (.base .expr) true true 0), .b 5 0 (.ro (.base .int)), .b 5 1 (.ro (.base .int)), .b 5 2 (.ro (.base .str)), .b 5 3 (.own (.base .expr) false true 1), .t 6 (.ro (.base .int)), .t 7 (.ro (.base .int))], boxes := [(0, 3), (4, 4), (5, 4)], ptrs := [(0, 0, 0), (4, 4, 0), (5, 5, 0)] })] Try.f222 sL10ListFS.ps sL10ListFS.rs sL10ListFS.sh (a, b) = sL10List a b := by kernel_rfl
theorem sL10List_sound : BSound Try.prog sL10ListFS :=
  bsound_of_den (E := { tt := tt, fs := [sL10NumFS], bs := [sL1OnceFS, sL1BelowFS, sL10LeafFS] }) (.cons sL10Num_callable sL10Num_sound (.consB sL1Once_callable sL1Once_sound (.consB sL1Below_callable sL1Below_sound (.consB sL10Leaf_callable sL10Leaf_sound (.nil tt_ok))))) mixed_ok [(4, { n := 34, its := [.b 0 0 (.ro (.list (.base .u8))), .b 0 1 (.ro (.base .int)), .b 0 2 (.ro (.base .int)), .t 1 (.ro (.list (.base .str))), .b 4 0 (.ro (.base .int)), .b 4 1 (.ro (.base .int)), .b 4 2 (.ro (.base .str)), .b 4 3 (.own (.base .expr) true true 0), .b 5 0 (.ro (.base .int)), .b 5 1 (.ro (.base .int)), .b 5 2 (.ro (.base .str)), .b 5 3 (.own (.base .expr) false true 1), .t 6 (.ro (.base .int)), .t 7 (.ro (.base .int))], boxes := [(0, 3), (4, 4), (5, 4)], ptrs := [(0, 0, 0), (4, 4, 0), (5, 5, 0)] })] (fn := Try.f222) (by kernel_rfl) fun x => sL10List_den x.1 x.2
theorem sL10Call_callable : callable Try.prog 223 = true := by kernel_rfl
theorem sL10Call_den (a : Str) (b : List GExpr) : denF { tt := tt, fs := [] } [] Try.f223 sL10CallFS.ps sL10CallFS.rs sL10CallFS.ex (a, b) = sL10Call a b := by kernel_rfl
theorem sL10Call_sound : Sound Try.prog sL10CallFS :=
  sound_of_den (E := { tt := tt, fs := [] }) (.nil tt_ok) mixed_ok [] (fn := Try.f223) (by kernel_rfl) fun x => sL10Call_den x.1 x.2
theorem sL1PickExpr_callable : callable Try.prog 224 = true := by kernel_rfl
theorem sL1PickExpr_den (a : GCur) (b : GExpr) (c : GExpr) : denB { tt := tt, fs := [], bs := [sL1OnceFS] } [] Try.f224 sL1PickExprFS.ps sL1PickExprFS.rs sL1PickExprFS.sh (a, b, c) = sL1PickExpr a b c := by kernel_rfl
theorem sL1PickExpr_sound : BSound Try.prog sL1PickExprFS :=
  bsound_of_den (E := { tt := tt, fs := [], bs := [sL1OnceFS] }) (.consB sL1Once_callable sL1Once_sound (.nil tt_ok)) mixed_ok [] (fn := Try.f224) (by kernel_rfl) fun x => sL1PickExpr_den x.1 x.2.1 x.2.2
theorem sL10Column_callable : callable Try.prog 226 = true := by kernel_rfl
theorem sL10Column_den (a : GCur) : denB { tt := tt, fs := [], bs := [sL1PickFS] } [] Try.f226 sL10ColumnFS.ps sL10ColumnFS.rs sL10ColumnFS.sh a = sL10Column a := by kernel_rfl
theorem sL10Column_sound : BSound Try.prog sL10ColumnFS :=
  bsound_of_den (E := { tt := tt, fs := [], bs := [sL1PickFS] }) (.consB sL1Pick_callable sL1Pick_sound (.nil tt_ok)) mixed_ok [] (fn := Try.f226) (by kernel_rfl) fun x => sL10Column_den x
theorem sL10Table_callable : callable Try.prog 227 = true := by kernel_rfl
theorem sL10Table_den (a : GCur) : denB { tt := tt, fs := [sL10CallFS, sL10NumFS], bs := [sL1BelowFS] } [(4, { n := 31, its := [.b 0 0 (.ro (.list (.base .u8))), .b 0 1 (.ro (.base .int)), .b 0 2 (.ro (.base .int)), .b 2 0 (.ro (.base .int)), .b 2 1 (.ro (.base .int)), .b 2 2 (.ro (.base .str)), .b 2 3 (.own (.base .expr) true true 0), .b 3 0 (.ro (.base .int)), .b 3 1 (.ro (.base .int)), .b 3 2 (.ro (.base .str)), .b 3 3 (.own (.base .expr) true true 1), .t 4 (.ro (.base .int)), .t 5 (.ro (.base .int))], boxes := [(0, 3), (2, 4), (3, 4)], ptrs := [(0, 0, 0), (2, 2, 0), (3, 3, 0)] })] Try.f227 sL10TableFS.ps sL10TableFS.rs sL10TableFS.sh a = sL10Table a := by kernel_rfl
theorem sL10Table_sound : BSound Try.prog sL10TableFS :=
  bsound_of_den (E := { tt := tt, fs := [sL10CallFS, sL10NumFS], bs := [sL1BelowFS] }) (.cons sL10Call_callable sL10Call_sound (.cons sL10Num_callable sL10Num_sound (.consB sL1Below_callable sL1Below_sound (.nil tt_ok)))) mixed_ok [(4, { n := 31, its := [.b 0 0 (.ro (.list (.base .u8))), .b 0 1 (.ro (.base .int)), .b 0 2 (.ro (.base .int)), .b 2 0 (.ro (.base .int)), .b 2 1 (.ro (.base .int)), .b 2 2 (.ro (.base .str)), .b 2 3 (.own (.base .expr) true true 0), .b 3 0 (.ro (.base .int)), .b 3 1 (.ro (.base .int)), .b 3 2 (.ro (.base .str)), .b 3 3 (.own (.base .expr) true true 1), .t 4 (.ro (.base .int)), .t 5 (.ro (.base .int))], boxes := [(0, 3), (2, 4), (3, 4)], ptrs := [(0, 0, 0), (2, 2, 0), (3, 3, 0)] })] (fn := Try.f227) (by kernel_rfl) fun x => sL10Table_den x
theorem sL10Make_callable : callable Try.prog 200 = true := by kernel_rfl
theorem sL10Make_den (rsL10Make : GCur → (List Str) → Int → Option (GCur × GExpr)) (a : GCur) (b : List Str) (c : Int) : denB { tt := tt, fs := [sL10CallFS, sL10NumFS], bs := [sL1BelowFS, sL1PickFS, sL10LeafFS, sL10ListFS, sL1PickExprFS, sL10ColumnFS, sL10TableFS, { fid := 200, ps := [⟨true, .base .cur⟩, ⟨false, .list (.base .str)⟩, ⟨false, .base .int⟩], rs := [⟨true, .base .cur⟩, ⟨true, .base .expr⟩], ex := false, fn := fun x => rsL10Make x.1 x.2.1 x.2.2 }], ss := [sL10OpFS] } [] Try.f200 sL10MakeFS.ps sL10MakeFS.rs sL10MakeFS.sh (a, b, c) = sL10MakeB rsL10Make a b c := by kernel_rfl
theorem sL10MakeG_sound : ∀ n, BSound Try.prog (sL10MakeFSN n)
  | 0 => (fun w S bb vs Et args x y h => by cases h)
  | n + 1 => by
    have ih := sL10MakeG_sound n
    exact bsound_of_den (s := sL10MakeFSN (n + 1)) (E := { tt := tt, fs := [sL10CallFS, sL10NumFS], bs := [sL1BelowFS, sL1PickFS, sL10LeafFS, sL10ListFS, sL1PickExprFS, sL10ColumnFS, sL10TableFS, sL10MakeFSN n], ss := [sL10OpFS] }) (.cons sL10Call_callable sL10Call_sound (.cons sL10Num_callable sL10Num_sound (.consB sL1Below_callable sL1Below_sound (.consB sL1Pick_callable sL1Pick_sound (.consB sL10Leaf_callable sL10Leaf_sound (.consB sL10List_callable sL10List_sound (.consB sL1PickExpr_callable sL1PickExpr_sound (.consB sL10Column_callable sL10Column_sound (.consB sL10Table_callable sL10Table_sound (.consB sL10Make_callable ih (.consS sL10Op_callable sL10Op_sound (.nil tt_ok)))))))))))) mixed_ok [] (fn := Try.f200) (by kernel_rfl) fun x => sL10Make_den _ x.1 x.2.1 x.2.2
theorem sL10Make_sound : BSound Try.prog sL10MakeFS := fun w S bb vs Et args x y h => (sL10MakeG_sound (siz (α := GCur) x.1 + siz (α := List Str) x.2.1 + 1)) w S bb vs Et args x y h
theorem sL10Left_callable : callable Try.prog 235 = true := by kernel_rfl
theorem sL10Left_den (rsL10Left : GExpr → Int → Option (Int)) (a : GExpr) (b : Int) : denF { tt := tt, fs := [{ fid := 235, ps := [⟨true, .base .expr⟩, ⟨false, .base .int⟩], rs := [⟨false, .base .int⟩], ex := true, fn := fun x => rsL10Left x.1 x.2 }] } [(3, { n := 27, its := [.t 1 (.ro (.base .int)), .b 2 0 (.ro (.base .int)), .b 2 1 (.ro (.base .int)), .b 2 2 (.ro (.base .str)), .b 2 3 (.ro (.list (.base .expr))), .t 5 (.ro (.base .int))], boxes := [(2, 4)], ptrs := [(2, 2, 0)] })] Try.f235 sL10LeftFS.ps sL10LeftFS.rs sL10LeftFS.ex (a, b) = sL10LeftB rsL10Left a b := by kernel_rfl
theorem sL10LeftG_sound : ∀ n, Sound Try.prog (sL10LeftFSN n)
  | 0 => (fun w S args x y h => by cases h)
  | n + 1 => by
    have ih := sL10LeftG_sound n
    exact sound_of_den (s := sL10LeftFSN (n + 1)) (E := { tt := tt, fs := [sL10LeftFSN n] }) (.cons sL10Left_callable ih (.nil tt_ok)) mixed_ok [(3, { n := 27, its := [.t 1 (.ro (.base .int)), .b 2 0 (.ro (.base .int)), .b 2 1 (.ro (.base .int)), .b 2 2 (.ro (.base .str)), .b 2 3 (.ro (.list (.base .expr))), .t 5 (.ro (.base .int))], boxes := [(2, 4)], ptrs := [(2, 2, 0)] })] (fn := Try.f235) (by kernel_rfl) fun x => sL10Left_den _ x.1 x.2
theorem sL10Left_sound : Sound Try.prog sL10LeftFS := fun w S args x y h => (sL10LeftG_sound (siz (α := GExpr) x.1 + 1)) w S args x y h
theorem sNestingOf_callable : callable Try.prog 236 = true := by kernel_rfl
theorem sNestingOf_den (rsNestingOf : GExpr → Option (Int)) (a : GExpr) : denF { tt := tt, fs := [sL1MaxFS, { fid := 236, ps := [⟨true, .base .expr⟩], rs := [⟨false, .base .int⟩], ex := true, fn := fun x => rsNestingOf x }] } [(3, { n := 22, its := [.b 1 0 (.ro (.base .int)), .b 1 1 (.ro (.base .int)), .b 1 2 (.ro (.base .str)), .b 1 3 (.ro (.list (.base .expr))), .t 3 (.ro (.base .int)), .t 4 (.ro (.base .int))], boxes := [(1, 4)], ptrs := [(1, 1, 0)] })] Try.f236 sNestingOfFS.ps sNestingOfFS.rs sNestingOfFS.ex a = sNestingOfB rsNestingOf a := by kernel_rfl
theorem sNestingOfG_sound : ∀ n, Sound Try.prog (sNestingOfFSN n)
  | 0 => (fun w S args x y h => by cases h)
  | n + 1 => by
    have ih := sNestingOfG_sound n
    exact sound_of_den (s := sNestingOfFSN (n + 1)) (E := { tt := tt, fs := [sL1MaxFS, sNestingOfFSN n] }) (.cons sL1Max_callable sL1Max_sound (.cons sNestingOf_callable ih (.nil tt_ok))) mixed_ok [(3, { n := 22, its := [.b 1 0 (.ro (.base .int)), .b 1 1 (.ro (.base .int)), .b 1 2 (.ro (.base .str)), .b 1 3 (.ro (.list (.base .expr))), .t 3 (.ro (.base .int)), .t 4 (.ro (.base .int))], boxes := [(1, 4)], ptrs := [(1, 1, 0)] })] (fn := Try.f236) (by kernel_rfl) fun x => sNestingOf_den _ x
theorem sNestingOf_sound : Sound Try.prog sNestingOfFS := fun w S args x y h => (sNestingOfG_sound (siz (α := GExpr) x + 1)) w S args x y h
end Go.Proofs.Ytmadjfnpidahnaa
