/- The functions compute their models, by gen.py. -/
import Derived.Test.YtmadjfnpidahnaaDen1
namespace Go.Proofs.Ytmadjfnpidahnaa
open Go.Abs Go.Proofs
set_option maxRecDepth 100000
theorem sL41Bent_callable : callable Try.prog 50 = true := by kernel_rfl
theorem sL41Bent_den (a : GCur) : denB { tt := tt, fs := [], bs := [sL41LogFS, sL1BelowFS, sL41MakeFS, sL1PickIntFS] } [] Try.f50 sL41BentFS.ps sL41BentFS.rs sL41BentFS.sh a = sL41Bent a := by kernel_rfl
theorem sL41Bent_sound : BSound Try.prog sL41BentFS :=
  bsound_of_den (E := { tt := tt, fs := [], bs := [sL41LogFS, sL1BelowFS, sL41MakeFS, sL1PickIntFS] }) (.consB sL41Log_callable sL41Log_sound (.consB sL1Below_callable sL1Below_sound (.consB sL41Make_callable sL41Make_sound (.consB sL1PickInt_callable sL1PickInt_sound (.nil tt_ok))))) mixed_ok [] (fn := Try.f50) (by kernel_rfl) fun x => sL41Bent_den x
theorem sDrawIsValidLog_callable : callable Try.prog 9 = true := by kernel_rfl
theorem sDrawIsValidLog_den (a : List Int) : denS { tt := tt, fs := [], bs := [sL41LogFS, sL1OnceFS, sL41BentFS], ns := [sL1NewFS] } [] Try.f9 sDrawIsValidLogFS.ps sDrawIsValidLogFS.rs a = sDrawIsValidLog a := by kernel_rfl
theorem sDrawIsValidLog_sound : SSound Try.prog sDrawIsValidLogFS :=
  ssound_of_den (E := { tt := tt, fs := [], bs := [sL41LogFS, sL1OnceFS, sL41BentFS], ns := [sL1NewFS] }) (.consB sL41Log_callable sL41Log_sound (.consB sL1Once_callable sL1Once_sound (.consB sL41Bent_callable sL41Bent_sound (.consN sL1New_callable sL1New_sound (.nil tt_ok))))) mixed_ok [] (fn := Try.f9) (by kernel_rfl) fun x => sDrawIsValidLog_den x
theorem iOpBefore_callable : callable Try.prog 13 = true := by kernel_rfl
theorem iOpBefore_den (a : GOp) (b : GOp) : denF { tt := tt, fs := [] } [] Try.f13 iOpBeforeFS.ps iOpBeforeFS.rs iOpBeforeFS.ex (a, b) = iOpBefore a b := by kernel_rfl
theorem iOpBefore_sound : Sound Try.prog iOpBeforeFS :=
  sound_of_den (E := { tt := tt, fs := [] }) (.nil tt_ok) mixed_ok [] (fn := Try.f13) (by kernel_rfl) fun x => iOpBefore_den x.1 x.2
theorem iWithin_callable : callable Try.prog 54 = true := by kernel_rfl
theorem iWithin_den (a : Int) (b : Int) (c : Int) : denF { tt := tt, fs := [] } [] Try.f54 iWithinFS.ps iWithinFS.rs iWithinFS.ex (a, b, c) = iWithin a b c := by kernel_rfl
theorem iWithin_sound : Sound Try.prog iWithinFS :=
  sound_of_den (E := { tt := tt, fs := [] }) (.nil tt_ok) mixed_ok [] (fn := Try.f54) (by kernel_rfl) fun x => iWithin_den x.1 x.2.1 x.2.2
theorem iIsValidOp_callable : callable Try.prog 17 = true := by kernel_rfl
theorem iIsValidOp_den (a : GOp) : denF { tt := tt, fs := [iWithinFS] } [(4, { n := 81, its := [.b 1 0 (.ro (.base .int)), .b 1 1 (.ro (.base .int)), .b 1 2 (.ro (.base .int)), .b 1 3 (.ro (.list (.base .int))), .b 1 4 (.ro (.base .int)), .b 1 5 (.ro (.base .int)), .b 1 6 (.ro (.base .int)), .b 1 7 (.ro (.base .int)), .b 1 8 (.ro (.base .int)), .b 1 9 (.ro (.base .str)), .b 1 10 (.ro (.base .str)), .b 1 11 (.ro (.base .int)), .b 1 12 (.ro (.base .str)), .b 1 13 (.ro (.base .str)), .b 1 14 (.ro (.base .int)), .b 1 15 (.ro (.base .int)), .b 1 16 (.ro (.list (.base .read))), .t 25 (.ro (.list (.base .int))), .t 26 (.ro (.base .int)), .t 27 (.ro (.base .int))], boxes := [(1, 17)], ptrs := [(1, 1, 0)] })] Try.f17 iIsValidOpFS.ps iIsValidOpFS.rs iIsValidOpFS.ex a = iIsValidOp a := by kernel_rfl
theorem iIsValidOp_sound : Sound Try.prog iIsValidOpFS :=
  sound_of_den (E := { tt := tt, fs := [iWithinFS] }) (.cons iWithin_callable iWithin_sound (.nil tt_ok)) mixed_ok [(4, { n := 81, its := [.b 1 0 (.ro (.base .int)), .b 1 1 (.ro (.base .int)), .b 1 2 (.ro (.base .int)), .b 1 3 (.ro (.list (.base .int))), .b 1 4 (.ro (.base .int)), .b 1 5 (.ro (.base .int)), .b 1 6 (.ro (.base .int)), .b 1 7 (.ro (.base .int)), .b 1 8 (.ro (.base .int)), .b 1 9 (.ro (.base .str)), .b 1 10 (.ro (.base .str)), .b 1 11 (.ro (.base .int)), .b 1 12 (.ro (.base .str)), .b 1 13 (.ro (.base .str)), .b 1 14 (.ro (.base .int)), .b 1 15 (.ro (.base .int)), .b 1 16 (.ro (.list (.base .read))), .t 25 (.ro (.list (.base .int))), .t 26 (.ro (.base .int)), .t 27 (.ro (.base .int))], boxes := [(1, 17)], ptrs := [(1, 1, 0)] })] (fn := Try.f17) (by kernel_rfl) fun x => iIsValidOp_den x
theorem iIsValidLog_callable : callable Try.prog 10 = true := by kernel_rfl
theorem iIsValidLog_den (a : List GOp) : denF { tt := tt, fs := [iOpBeforeFS, iIsValidOpFS] } [(2, { n := 33, its := [.t 0 (.ro (.list (.base .op))), .t 5 (.ro (.list (.base .op))), .t 6 (.ro (.base .int)), .t 7 (.ro (.base .int))], boxes := [], ptrs := [] })] Try.f10 iIsValidLogFS.ps iIsValidLogFS.rs iIsValidLogFS.ex a = iIsValidLog a := by kernel_rfl
theorem iIsValidLog_sound : Sound Try.prog iIsValidLogFS :=
  sound_of_den (E := { tt := tt, fs := [iOpBeforeFS, iIsValidOpFS] }) (.cons iOpBefore_callable iOpBefore_sound (.cons iIsValidOp_callable iIsValidOp_sound (.nil tt_ok))) mixed_ok [(2, { n := 33, its := [.t 0 (.ro (.list (.base .op))), .t 5 (.ro (.list (.base .op))), .t 6 (.ro (.base .int)), .t 7 (.ro (.base .int))], boxes := [], ptrs := [] })] (fn := Try.f10) (by kernel_rfl) fun x => iIsValidLog_den x
theorem sL41Seen_callable : callable Try.prog 97 = true := by kernel_rfl
theorem sL41Seen_den (a : List Int) : denF { tt := tt, fs := [sL1InFS] } [(2, { n := 19, its := [.t 0 (.ro (.list (.base .int))), .t 3 (.ro (.base .int))], boxes := [], ptrs := [] })] Try.f97 sL41SeenFS.ps sL41SeenFS.rs sL41SeenFS.ex a = sL41Seen a := by kernel_rfl
theorem sL41Seen_sound : Sound Try.prog sL41SeenFS :=
  sound_of_den (E := { tt := tt, fs := [sL1InFS] }) (.cons sL1In_callable sL1In_sound (.nil tt_ok)) mixed_ok [(2, { n := 19, its := [.t 0 (.ro (.list (.base .int))), .t 3 (.ro (.base .int))], boxes := [], ptrs := [] })] (fn := Try.f97) (by kernel_rfl) fun x => sL41Seen_den x
theorem sIsValidOp_callable : callable Try.prog 51 = true := by kernel_rfl
theorem sIsValidOp_den (a : GOp) : denF { tt := tt, fs := [sL1InFS, sL41SeenFS] } [] Try.f51 sIsValidOpFS.ps sIsValidOpFS.rs sIsValidOpFS.ex a = sIsValidOp a := by kernel_rfl
theorem sIsValidOp_sound : Sound Try.prog sIsValidOpFS :=
  sound_of_den (E := { tt := tt, fs := [sL1InFS, sL41SeenFS] }) (.cons sL1In_callable sL1In_sound (.cons sL41Seen_callable sL41Seen_sound (.nil tt_ok))) mixed_ok [] (fn := Try.f51) (by kernel_rfl) fun x => sIsValidOp_den x
theorem sIsValidLog_callable : callable Try.prog 11 = true := by kernel_rfl
theorem sIsValidLog_den (a : List GOp) : denF { tt := tt, fs := [sOpBeforeFS, sIsValidOpFS] } [(2, { n := 36, its := [.t 0 (.ro (.list (.base .op))), .t 3 (.ro (.base .int))], boxes := [], ptrs := [] })] Try.f11 sIsValidLogFS.ps sIsValidLogFS.rs sIsValidLogFS.ex a = sIsValidLog a := by kernel_rfl
theorem sIsValidLog_sound : Sound Try.prog sIsValidLogFS :=
  sound_of_den (E := { tt := tt, fs := [sOpBeforeFS, sIsValidOpFS] }) (.cons sOpBefore_callable sOpBefore_sound (.cons sIsValidOp_callable sIsValidOp_sound (.nil tt_ok))) mixed_ok [(2, { n := 36, its := [.t 0 (.ro (.list (.base .op))), .t 3 (.ro (.base .int))], boxes := [], ptrs := [] })] (fn := Try.f11) (by kernel_rfl) fun x => sIsValidLog_den x
theorem sDrawOpBefore_callable : callable Try.prog 12 = true := by kernel_rfl
theorem sDrawOpBefore_den (a : List Int) : denS { tt := tt, fs := [], bs := [sL41BentFS], ns := [sL1NewFS] } [] Try.f12 sDrawOpBeforeFS.ps sDrawOpBeforeFS.rs a = sDrawOpBefore a := by kernel_rfl
theorem sDrawOpBefore_sound : SSound Try.prog sDrawOpBeforeFS :=
  ssound_of_den (E := { tt := tt, fs := [], bs := [sL41BentFS], ns := [sL1NewFS] }) (.consB sL41Bent_callable sL41Bent_sound (.consN sL1New_callable sL1New_sound (.nil tt_ok))) mixed_ok [] (fn := Try.f12) (by kernel_rfl) fun x => sDrawOpBefore_den x
theorem iSameInt_callable : callable Try.prog 52 = true := by kernel_rfl
theorem iSameInt_den (a : List Int) (b : List Int) : denF { tt := tt, fs := [] } [(4, { n := 26, its := [.t 0 (.ro (.list (.base .int))), .t 1 (.ro (.list (.base .int))), .t 12 (.ro (.base .int)), .t 13 (.ro (.base .int))], boxes := [], ptrs := [] })] Try.f52 iSameIntFS.ps iSameIntFS.rs iSameIntFS.ex (a, b) = iSameInt a b := by kernel_rfl
theorem iSameInt_sound : Sound Try.prog iSameIntFS :=
  sound_of_den (E := { tt := tt, fs := [] }) (.nil tt_ok) mixed_ok [(4, { n := 26, its := [.t 0 (.ro (.list (.base .int))), .t 1 (.ro (.list (.base .int))), .t 12 (.ro (.base .int)), .t 13 (.ro (.base .int))], boxes := [], ptrs := [] })] (fn := Try.f52) (by kernel_rfl) fun x => iSameInt_den x.1 x.2
theorem iSameRead_callable : callable Try.prog 98 = true := by kernel_rfl
theorem iSameRead_den (a : GRead) (b : GRead) : denF { tt := tt, fs := [] } [] Try.f98 iSameReadFS.ps iSameReadFS.rs iSameReadFS.ex (a, b) = iSameRead a b := by kernel_rfl
theorem iSameRead_sound : Sound Try.prog iSameReadFS :=
  sound_of_den (E := { tt := tt, fs := [] }) (.nil tt_ok) mixed_ok [] (fn := Try.f98) (by kernel_rfl) fun x => iSameRead_den x.1 x.2
theorem iSameString_callable : callable Try.prog 184 = true := by kernel_rfl
theorem iSameString_den (a : List Str) (b : List Str) : denF { tt := tt, fs := [] } [(4, { n := 26, its := [.t 0 (.ro (.list (.base .str))), .t 1 (.ro (.list (.base .str))), .t 12 (.ro (.base .int)), .t 13 (.ro (.base .int))], boxes := [], ptrs := [] })] Try.f184 iSameStringFS.ps iSameStringFS.rs iSameStringFS.ex (a, b) = iSameString a b := by kernel_rfl
theorem iSameString_sound : Sound Try.prog iSameStringFS :=
  sound_of_den (E := { tt := tt, fs := [] }) (.nil tt_ok) mixed_ok [(4, { n := 26, its := [.t 0 (.ro (.list (.base .str))), .t 1 (.ro (.list (.base .str))), .t 12 (.ro (.base .int)), .t 13 (.ro (.base .int))], boxes := [], ptrs := [] })] (fn := Try.f184) (by kernel_rfl) fun x => iSameString_den x.1 x.2
theorem iSameOrigin_callable : callable Try.prog 185 = true := by kernel_rfl
theorem iSameOrigin_den (a : List GOrigin) (b : List GOrigin) : denF { tt := tt, fs := [] } [(4, { n := 26, its := [.t 0 (.ro (.list (.base .origin))), .t 1 (.ro (.list (.base .origin))), .t 12 (.ro (.base .int)), .t 13 (.ro (.base .int))], boxes := [], ptrs := [] })] Try.f185 iSameOriginFS.ps iSameOriginFS.rs iSameOriginFS.ex (a, b) = iSameOrigin a b := by kernel_rfl
theorem iSameOrigin_sound : Sound Try.prog iSameOriginFS :=
  sound_of_den (E := { tt := tt, fs := [] }) (.nil tt_ok) mixed_ok [(4, { n := 26, its := [.t 0 (.ro (.list (.base .origin))), .t 1 (.ro (.list (.base .origin))), .t 12 (.ro (.base .int)), .t 13 (.ro (.base .int))], boxes := [], ptrs := [] })] (fn := Try.f185) (by kernel_rfl) fun x => iSameOrigin_den x.1 x.2
theorem iEqual_callable : callable Try.prog 150 = true := by kernel_rfl
theorem iEqual_den (riEqual : GVal → GVal → Bool → Option (Bool)) (a : GVal) (b : GVal) (c : Bool) : denF { tt := tt, fs := [iSameIntFS, iSameStringFS, iSameOriginFS, { fid := 150, ps := [⟨true, .base .val⟩, ⟨true, .base .val⟩, ⟨false, .base .bool⟩], rs := [⟨false, .base .bool⟩], ex := true, fn := fun x => riEqual x.1 x.2.1 x.2.2 }] } [(10, { n := 121, its := [.t 2 (.ro (.base .bool)), .b 3 0 (.ro (.base .int)), .b 3 1 (.ro (.base .int)), .b 3 2 (.ro (.base .int)), .b 3 3 (.ro (.base .str)), .b 3 4 (.ro (.list (.base .val))), .b 3 5 (.ro (.list (.base .str))), .b 3 6 (.ro (.list (.base .row))), .b 4 0 (.ro (.base .int)), .b 4 1 (.ro (.base .int)), .b 4 2 (.ro (.base .int)), .b 4 3 (.ro (.base .str)), .b 4 4 (.ro (.list (.base .val))), .b 4 5 (.ro (.list (.base .str))), .b 4 6 (.ro (.list (.base .row))), .t 83 (.ro (.base .int)), .t 84 (.ro (.base .int))], boxes := [(3, 7), (4, 7)], ptrs := [(3, 3, 0), (4, 4, 0)] }), (4, { n := 121, its := [.t 2 (.ro (.base .bool)), .b 3 0 (.ro (.base .int)), .b 3 1 (.ro (.base .int)), .b 3 2 (.ro (.base .int)), .b 3 3 (.ro (.base .str)), .b 3 4 (.ro (.list (.base .val))), .b 3 5 (.ro (.list (.base .str))), .b 3 6 (.ro (.list (.base .row))), .b 4 0 (.ro (.base .int)), .b 4 1 (.ro (.base .int)), .b 4 2 (.ro (.base .int)), .b 4 3 (.ro (.base .str)), .b 4 4 (.ro (.list (.base .val))), .b 4 5 (.ro (.list (.base .str))), .b 4 6 (.ro (.list (.base .row))), .t 63 (.ro (.base .int)), .t 64 (.ro (.base .int))], boxes := [(3, 7), (4, 7)], ptrs := [(3, 3, 0), (4, 4, 0)] })] Try.f150 iEqualFS.ps iEqualFS.rs iEqualFS.ex (a, b, c) = iEqualB riEqual a b c := by kernel_rfl
theorem iEqualG_sound : ∀ n, Sound Try.prog (iEqualFSN n)
  | 0 => (fun w S args x y h => by cases h)
  | n + 1 => by
    have ih := iEqualG_sound n
    exact sound_of_den (s := iEqualFSN (n + 1)) (E := { tt := tt, fs := [iSameIntFS, iSameStringFS, iSameOriginFS, iEqualFSN n] }) (.cons iSameInt_callable iSameInt_sound (.cons iSameString_callable iSameString_sound (.cons iSameOrigin_callable iSameOrigin_sound (.cons iEqual_callable ih (.nil tt_ok))))) mixed_ok [(10, { n := 121, its := [.t 2 (.ro (.base .bool)), .b 3 0 (.ro (.base .int)), .b 3 1 (.ro (.base .int)), .b 3 2 (.ro (.base .int)), .b 3 3 (.ro (.base .str)), .b 3 4 (.ro (.list (.base .val))), .b 3 5 (.ro (.list (.base .str))), .b 3 6 (.ro (.list (.base .row))), .b 4 0 (.ro (.base .int)), .b 4 1 (.ro (.base .int)), .b 4 2 (.ro (.base .int)), .b 4 3 (.ro (.base .str)), .b 4 4 (.ro (.list (.base .val))), .b 4 5 (.ro (.list (.base .str))), .b 4 6 (.ro (.list (.base .row))), .t 83 (.ro (.base .int)), .t 84 (.ro (.base .int))], boxes := [(3, 7), (4, 7)], ptrs := [(3, 3, 0), (4, 4, 0)] }), (4, { n := 121, its := [.t 2 (.ro (.base .bool)), .b 3 0 (.ro (.base .int)), .b 3 1 (.ro (.base .int)), .b 3 2 (.ro (.base .int)), .b 3 3 (.ro (.base .str)), .b 3 4 (.ro (.list (.base .val))), .b 3 5 (.ro (.list (.base .str))), .b 3 6 (.ro (.list (.base .row))), .b 4 0 (.ro (.base .int)), .b 4 1 (.ro (.base .int)), .b 4 2 (.ro (.base .int)), .b 4 3 (.ro (.base .str)), .b 4 4 (.ro (.list (.base .val))), .b 4 5 (.ro (.list (.base .str))), .b 4 6 (.ro (.list (.base .row))), .t 63 (.ro (.base .int)), .t 64 (.ro (.base .int))], boxes := [(3, 7), (4, 7)], ptrs := [(3, 3, 0), (4, 4, 0)] })] (fn := Try.f150) (by kernel_rfl) fun x => iEqual_den _ x.1 x.2.1 x.2.2
theorem iEqual_sound : Sound Try.prog iEqualFS := fun w S args x y h => (iEqualG_sound (siz (α := GVal) x.1 + siz (α := GVal) x.2.1 + 1)) w S args x y h
theorem iEqualValue_callable : callable Try.prog 99 = true := by kernel_rfl
theorem iEqualValue_den (a : GVal) (b : GVal) : denF { tt := tt, fs := [iEqualFS] } [] Try.f99 iEqualValueFS.ps iEqualValueFS.rs iEqualValueFS.ex (a, b) = iEqualValue a b := by kernel_rfl
theorem iEqualValue_sound : Sound Try.prog iEqualValueFS :=
  sound_of_den (E := { tt := tt, fs := [iEqualFS] }) (.cons iEqual_callable iEqual_sound (.nil tt_ok)) mixed_ok [] (fn := Try.f99) (by kernel_rfl) fun x => iEqualValue_den x.1 x.2
theorem iEqualReads_callable : callable Try.prog 53 = true := by kernel_rfl
theorem iEqualReads_den (a : List GRead) (b : List GRead) : denF { tt := tt, fs := [iSameReadFS, iEqualValueFS] } [(4, { n := 41, its := [.t 0 (.ro (.list (.base .read))), .t 1 (.ro (.list (.base .read))), .t 12 (.ro (.base .int)), .t 13 (.ro (.base .int))], boxes := [], ptrs := [] })] Try.f53 iEqualReadsFS.ps iEqualReadsFS.rs iEqualReadsFS.ex (a, b) = iEqualReads a b := by kernel_rfl
theorem iEqualReads_sound : Sound Try.prog iEqualReadsFS :=
  sound_of_den (E := { tt := tt, fs := [iSameReadFS, iEqualValueFS] }) (.cons iSameRead_callable iSameRead_sound (.cons iEqualValue_callable iEqualValue_sound (.nil tt_ok))) mixed_ok [(4, { n := 41, its := [.t 0 (.ro (.list (.base .read))), .t 1 (.ro (.list (.base .read))), .t 12 (.ro (.base .int)), .t 13 (.ro (.base .int))], boxes := [], ptrs := [] })] (fn := Try.f53) (by kernel_rfl) fun x => iEqualReads_den x.1 x.2
theorem iEqualOp_callable : callable Try.prog 14 = true := by kernel_rfl
theorem iEqualOp_den (a : GOp) (b : GOp) : denF { tt := tt, fs := [iSameIntFS, iEqualReadsFS] } [] Try.f14 iEqualOpFS.ps iEqualOpFS.rs iEqualOpFS.ex (a, b) = iEqualOp a b := by kernel_rfl
theorem iEqualOp_sound : Sound Try.prog iEqualOpFS :=
  sound_of_den (E := { tt := tt, fs := [iSameIntFS, iEqualReadsFS] }) (.cons iSameInt_callable iSameInt_sound (.cons iEqualReads_callable iEqualReads_sound (.nil tt_ok))) mixed_ok [] (fn := Try.f14) (by kernel_rfl) fun x => iEqualOp_den x.1 x.2
theorem iCountBy_callable : callable Try.prog 16 = true := by kernel_rfl
theorem iCountBy_den (a : List GOp) (b : Int) : denF { tt := tt, fs := [] } [(3, { n := 22, its := [.t 1 (.ro (.base .int)), .t 5 (.ro (.base .int)), .t 8 (.ro (.list (.base .op))), .t 9 (.ro (.base .int)), .t 10 (.ro (.base .int))], boxes := [], ptrs := [] })] Try.f16 iCountByFS.ps iCountByFS.rs iCountByFS.ex (a, b) = iCountBy a b := by kernel_rfl
theorem iCountBy_sound : Sound Try.prog iCountByFS :=
  sound_of_den (E := { tt := tt, fs := [] }) (.nil tt_ok) mixed_ok [(3, { n := 22, its := [.t 1 (.ro (.base .int)), .t 5 (.ro (.base .int)), .t 8 (.ro (.list (.base .op))), .t 9 (.ro (.base .int)), .t 10 (.ro (.base .int))], boxes := [], ptrs := [] })] (fn := Try.f16) (by kernel_rfl) fun x => iCountBy_den x.1 x.2
theorem iStampVersion_callable : callable Try.prog 18 = true := by kernel_rfl
theorem iStampVersion_den (a : GOp) : denF { tt := tt, fs := [] } [] Try.f18 iStampVersionFS.ps iStampVersionFS.rs iStampVersionFS.ex a = iStampVersion a := by kernel_rfl
theorem iStampVersion_sound : Sound Try.prog iStampVersionFS :=
  sound_of_den (E := { tt := tt, fs := [] }) (.nil tt_ok) mixed_ok [] (fn := Try.f18) (by kernel_rfl) fun x => iStampVersion_den x
theorem iLastTime_callable : callable Try.prog 19 = true := by kernel_rfl
theorem iLastTime_den (a : List GOp) : denF { tt := tt, fs := [] } [(3, { n := 18, its := [.t 3 (.ro (.base .int)), .t 6 (.ro (.list (.base .op))), .t 7 (.ro (.base .int)), .t 8 (.ro (.base .int))], boxes := [], ptrs := [] })] Try.f19 iLastTimeFS.ps iLastTimeFS.rs iLastTimeFS.ex a = iLastTime a := by kernel_rfl
theorem iLastTime_sound : Sound Try.prog iLastTimeFS :=
  sound_of_den (E := { tt := tt, fs := [] }) (.nil tt_ok) mixed_ok [(3, { n := 18, its := [.t 3 (.ro (.base .int)), .t 6 (.ro (.list (.base .op))), .t 7 (.ro (.base .int)), .t 8 (.ro (.base .int))], boxes := [], ptrs := [] })] (fn := Try.f19) (by kernel_rfl) fun x => iLastTime_den x
theorem FnOps_callable : callable Try.prog 3 = true := by kernel_rfl
theorem FnOps_den (a : List Int) : denF { tt := tt, fs := [bigFS, iIsValidLogFS, sIsValidLogFS, iOpBeforeFS, iEqualOpFS, sOpBeforeFS, iCountByFS, iIsValidOpFS, iStampVersionFS, iLastTimeFS], ss := [sDrawIsValidLogFS, sDrawOpBeforeFS] } [(18, { n := 120, its := [.t 3 (.own (.base .op) false true 0), .t 4 (.ro (.base .bool)), .t 9 (.ro (.base .int))], boxes := [], ptrs := [] }), (12, { n := 120, its := [.t 3 (.own (.base .op) false true 0), .t 4 (.ro (.base .bool)), .t 7 (.ro (.base .int)), .t 8 (.ro (.base .int))], boxes := [], ptrs := [] })] Try.f3 FnOpsFS.ps FnOpsFS.rs FnOpsFS.ex a = FnOps a := by kernel_rfl
theorem FnOps_sound : Sound Try.prog FnOpsFS :=
  sound_of_den (E := { tt := tt, fs := [bigFS, iIsValidLogFS, sIsValidLogFS, iOpBeforeFS, iEqualOpFS, sOpBeforeFS, iCountByFS, iIsValidOpFS, iStampVersionFS, iLastTimeFS], ss := [sDrawIsValidLogFS, sDrawOpBeforeFS] }) (.cons big_callable big_sound (.cons iIsValidLog_callable iIsValidLog_sound (.cons sIsValidLog_callable sIsValidLog_sound (.cons iOpBefore_callable iOpBefore_sound (.cons iEqualOp_callable iEqualOp_sound (.cons sOpBefore_callable sOpBefore_sound (.cons iCountBy_callable iCountBy_sound (.cons iIsValidOp_callable iIsValidOp_sound (.cons iStampVersion_callable iStampVersion_sound (.cons iLastTime_callable iLastTime_sound (.consS sDrawIsValidLog_callable sDrawIsValidLog_sound (.consS sDrawOpBefore_callable sDrawOpBefore_sound (.nil tt_ok))))))))))))) mixed_ok [(18, { n := 120, its := [.t 3 (.own (.base .op) false true 0), .t 4 (.ro (.base .bool)), .t 9 (.ro (.base .int))], boxes := [], ptrs := [] }), (12, { n := 120, its := [.t 3 (.own (.base .op) false true 0), .t 4 (.ro (.base .bool)), .t 7 (.ro (.base .int)), .t 8 (.ro (.base .int))], boxes := [], ptrs := [] })] (fn := Try.f3) (by kernel_rfl) fun x => FnOps_den x
theorem sL17Copy_callable : callable Try.prog 58 = true := by kernel_rfl
theorem sL17Copy_den (a : GNotebook) : denF { tt := tt, fs := [] } [] Try.f58 sL17CopyFS.ps sL17CopyFS.rs sL17CopyFS.ex a = sL17Copy a := by kernel_rfl
theorem sL17Copy_sound : Sound Try.prog sL17CopyFS :=
  sound_of_den (E := { tt := tt, fs := [] }) (.nil tt_ok) mixed_ok [] (fn := Try.f58) (by kernel_rfl) fun x => sL17Copy_den x
theorem sCellIndex_callable : callable Try.prog 106 = true := by kernel_rfl
theorem sCellIndex_den (a : GNotebook) (b : Int) : denF { tt := tt, fs := [] } [(2, { n := 22, its := [.t 1 (.ro (.base .int)), .b 2 0 (.ro (.list (.base .cell))), .t 5 (.ro (.base .int))], boxes := [(2, 1)], ptrs := [(2, 2, 0)] })] Try.f106 sCellIndexFS.ps sCellIndexFS.rs sCellIndexFS.ex (a, b) = sCellIndex a b := by kernel_rfl
theorem sCellIndex_sound : Sound Try.prog sCellIndexFS :=
  sound_of_den (E := { tt := tt, fs := [] }) (.nil tt_ok) mixed_ok [(2, { n := 22, its := [.t 1 (.ro (.base .int)), .b 2 0 (.ro (.list (.base .cell))), .t 5 (.ro (.base .int))], boxes := [(2, 1)], ptrs := [(2, 2, 0)] })] (fn := Try.f106) (by kernel_rfl) fun x => sCellIndex_den x.1 x.2
theorem sIsPrintable_callable : callable Try.prog 156 = true := by kernel_rfl
theorem sIsPrintable_den (a : Str) : denF { tt := tt, fs := [] } [(2, { n := 23, its := [.t 0 (.ro (.base .str)), .t 3 (.ro (.base .int))], boxes := [], ptrs := [] })] Try.f156 sIsPrintableFS.ps sIsPrintableFS.rs sIsPrintableFS.ex a = sIsPrintable a := by kernel_rfl
theorem sIsPrintable_sound : Sound Try.prog sIsPrintableFS :=
  sound_of_den (E := { tt := tt, fs := [] }) (.nil tt_ok) mixed_ok [(2, { n := 23, its := [.t 0 (.ro (.base .str)), .t 3 (.ro (.base .int))], boxes := [], ptrs := [] })] (fn := Try.f156) (by kernel_rfl) fun x => sIsPrintable_den x
theorem sIsValidCell_callable : callable Try.prog 107 = true := by kernel_rfl
theorem sIsValidCell_den (a : GCell) : denF { tt := tt, fs := [sL1InFS, sIsPrintableFS, sIsValidNameFS] } [] Try.f107 sIsValidCellFS.ps sIsValidCellFS.rs sIsValidCellFS.ex a = sIsValidCell a := by kernel_rfl
theorem sIsValidCell_sound : Sound Try.prog sIsValidCellFS :=
  sound_of_den (E := { tt := tt, fs := [sL1InFS, sIsPrintableFS, sIsValidNameFS] }) (.cons sL1In_callable sL1In_sound (.cons sIsPrintable_callable sIsPrintable_sound (.cons sIsValidName_callable sIsValidName_sound (.nil tt_ok)))) mixed_ok [] (fn := Try.f107) (by kernel_rfl) fun x => sIsValidCell_den x
theorem sIsValidNotebook_callable : callable Try.prog 105 = true := by kernel_rfl
theorem sIsValidNotebook_den (a : GNotebook) : denF { tt := tt, fs := [sCellIndexFS, sIsValidCellFS] } [(2, { n := 34, its := [.b 1 0 (.ro (.list (.base .cell))), .t 3 (.ro (.base .int))], boxes := [(1, 1)], ptrs := [(1, 1, 0)] })] Try.f105 sIsValidNotebookFS.ps sIsValidNotebookFS.rs sIsValidNotebookFS.ex a = sIsValidNotebook a := by kernel_rfl
theorem sIsValidNotebook_sound : Sound Try.prog sIsValidNotebookFS :=
  sound_of_den (E := { tt := tt, fs := [sCellIndexFS, sIsValidCellFS] }) (.cons sCellIndex_callable sCellIndex_sound (.cons sIsValidCell_callable sIsValidCell_sound (.nil tt_ok))) mixed_ok [(2, { n := 34, its := [.b 1 0 (.ro (.list (.base .cell))), .t 3 (.ro (.base .int))], boxes := [(1, 1)], ptrs := [(1, 1, 0)] })] (fn := Try.f105) (by kernel_rfl) fun x => sIsValidNotebook_den x
theorem sL1Min_callable : callable Try.prog 159 = true := by kernel_rfl
theorem sL1Min_den (a : Int) (b : Int) : denF { tt := tt, fs := [] } [] Try.f159 sL1MinFS.ps sL1MinFS.rs sL1MinFS.ex (a, b) = sL1Min a b := by kernel_rfl
theorem sL1Min_sound : Sound Try.prog sL1MinFS :=
  sound_of_den (E := { tt := tt, fs := [] }) (.nil tt_ok) mixed_ok [] (fn := Try.f159) (by kernel_rfl) fun x => sL1Min_den x.1 x.2
theorem sL20Put_callable : callable Try.prog 108 = true := by kernel_rfl
theorem sL20Put_den (a : List GCell) (b : Int) (c : GCell) : denF { tt := tt, fs := [sL1MaxFS, sL1MinFS] } [] Try.f108 sL20PutFS.ps sL20PutFS.rs sL20PutFS.ex (a, b, c) = sL20Put a b c := by kernel_rfl
theorem sL20Put_sound : Sound Try.prog sL20PutFS :=
  sound_of_den (E := { tt := tt, fs := [sL1MaxFS, sL1MinFS] }) (.cons sL1Max_callable sL1Max_sound (.cons sL1Min_callable sL1Min_sound (.nil tt_ok))) mixed_ok [] (fn := Try.f108) (by kernel_rfl) fun x => sL20Put_den x.1 x.2.1 x.2.2
theorem sL20Drop_callable : callable Try.prog 109 = true := by kernel_rfl
theorem sL20Drop_den (a : List GCell) (b : Int) : denF { tt := tt, fs := [] } [] Try.f109 sL20DropFS.ps sL20DropFS.rs sL20DropFS.ex (a, b) = sL20Drop a b := by kernel_rfl
theorem sL20Drop_sound : Sound Try.prog sL20DropFS :=
  sound_of_den (E := { tt := tt, fs := [] }) (.nil tt_ok) mixed_ok [] (fn := Try.f109) (by kernel_rfl) fun x => sL20Drop_den x.1 x.2
end Go.Proofs.Ytmadjfnpidahnaa
