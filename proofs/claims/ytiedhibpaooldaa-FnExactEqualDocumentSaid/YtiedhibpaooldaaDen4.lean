/- The functions compute their models, by gen.py. -/
import Derived.Test.YtiedhibpaooldaaDen3
namespace Go.Proofs.Ytiedhibpaooldaa
open Go.Abs Go.Proofs
set_option maxRecDepth 100000
theorem iPathTo_callable : callable Try.prog 45 = true := by kernel_rfl
theorem iPathTo_den (a : GHistory) (b : Int) : denF { tt := tt, fs := [iIsValidHistoryFS, iWithinFS] } [(4, { n := 32, its := [.t 1 (.ro (.base .int)), .b 2 0 (.ro (.list (.base .cell))), .b 2 1 (.ro (.list (.base .node))), .b 2 2 (.ro (.base .int)), .t 5 (.own (.base .int) true true 0)], boxes := [(2, 3)], ptrs := [(2, 2, 0)] })] Try.f45 iPathToFS.ps iPathToFS.rs iPathToFS.ex (a, b) = iPathTo a b := by kernel_rfl
theorem iPathTo_sound : Sound Try.prog iPathToFS :=
  sound_of_den (E := { tt := tt, fs := [iIsValidHistoryFS, iWithinFS] }) (.cons iIsValidHistory_callable iIsValidHistory_sound (.cons iWithin_callable iWithin_sound (.nil tt_ok))) mixed_ok [(4, { n := 32, its := [.t 1 (.ro (.base .int)), .b 2 0 (.ro (.list (.base .cell))), .b 2 1 (.ro (.list (.base .node))), .b 2 2 (.ro (.base .int)), .t 5 (.own (.base .int) true true 0)], boxes := [(2, 3)], ptrs := [(2, 2, 0)] })] (fn := Try.f45) (by kernel_rfl) fun x => iPathTo_den x.1 x.2
theorem sL41Seen_callable : callable Try.prog 139 = true := by kernel_rfl
theorem sL41Seen_den (a : List Int) : denF { tt := tt, fs := [sL1InFS] } [(2, { n := 19, its := [.t 0 (.ro (.list (.base .int))), .t 3 (.ro (.base .int))], boxes := [], ptrs := [] })] Try.f139 sL41SeenFS.ps sL41SeenFS.rs sL41SeenFS.ex a = sL41Seen a := by kernel_rfl
theorem sL41Seen_sound : Sound Try.prog sL41SeenFS :=
  sound_of_den (E := { tt := tt, fs := [sL1InFS] }) (.cons sL1In_callable sL1In_sound (.nil tt_ok)) mixed_ok [(2, { n := 19, its := [.t 0 (.ro (.list (.base .int))), .t 3 (.ro (.base .int))], boxes := [], ptrs := [] })] (fn := Try.f139) (by kernel_rfl) fun x => sL41Seen_den x
theorem sIsValidOp_callable : callable Try.prog 105 = true := by kernel_rfl
theorem sIsValidOp_den (a : GOp) : denF { tt := tt, fs := [sL1InFS, sL41SeenFS] } [] Try.f105 sIsValidOpFS.ps sIsValidOpFS.rs sIsValidOpFS.ex a = sIsValidOp a := by kernel_rfl
theorem sIsValidOp_sound : Sound Try.prog sIsValidOpFS :=
  sound_of_den (E := { tt := tt, fs := [sL1InFS, sL41SeenFS] }) (.cons sL1In_callable sL1In_sound (.cons sL41Seen_callable sL41Seen_sound (.nil tt_ok))) mixed_ok [] (fn := Try.f105) (by kernel_rfl) fun x => sIsValidOp_den x
theorem sOpBefore_callable : callable Try.prog 106 = true := by kernel_rfl
theorem sOpBefore_den (a : GOp) (b : GOp) : denF { tt := tt, fs := [] } [] Try.f106 sOpBeforeFS.ps sOpBeforeFS.rs sOpBeforeFS.ex (a, b) = sOpBefore a b := by kernel_rfl
theorem sOpBefore_sound : Sound Try.prog sOpBeforeFS :=
  sound_of_den (E := { tt := tt, fs := [] }) (.nil tt_ok) mixed_ok [] (fn := Try.f106) (by kernel_rfl) fun x => sOpBefore_den x.1 x.2
theorem sIsValidLog_callable : callable Try.prog 50 = true := by kernel_rfl
theorem sIsValidLog_den (a : List GOp) : denF { tt := tt, fs := [sIsValidOpFS, sOpBeforeFS] } [(2, { n := 36, its := [.t 0 (.ro (.list (.base .op))), .t 3 (.ro (.base .int))], boxes := [], ptrs := [] })] Try.f50 sIsValidLogFS.ps sIsValidLogFS.rs sIsValidLogFS.ex a = sIsValidLog a := by kernel_rfl
theorem sIsValidLog_sound : Sound Try.prog sIsValidLogFS :=
  sound_of_den (E := { tt := tt, fs := [sIsValidOpFS, sOpBeforeFS] }) (.cons sIsValidOp_callable sIsValidOp_sound (.cons sOpBefore_callable sOpBefore_sound (.nil tt_ok))) mixed_ok [(2, { n := 36, its := [.t 0 (.ro (.list (.base .op))), .t 3 (.ro (.base .int))], boxes := [], ptrs := [] })] (fn := Try.f50) (by kernel_rfl) fun x => sIsValidLog_den x
theorem iIsValidOp_callable : callable Try.prog 107 = true := by kernel_rfl
theorem iIsValidOp_den (a : GOp) : denF { tt := tt, fs := [iWithinFS] } [(4, { n := 81, its := [.b 1 0 (.ro (.base .int)), .b 1 1 (.ro (.base .int)), .b 1 2 (.ro (.base .int)), .b 1 3 (.ro (.list (.base .int))), .b 1 4 (.ro (.base .int)), .b 1 5 (.ro (.base .int)), .b 1 6 (.ro (.base .int)), .b 1 7 (.ro (.base .int)), .b 1 8 (.ro (.base .int)), .b 1 9 (.ro (.base .str)), .b 1 10 (.ro (.base .str)), .b 1 11 (.ro (.base .int)), .b 1 12 (.ro (.base .str)), .b 1 13 (.ro (.base .str)), .b 1 14 (.ro (.base .int)), .b 1 15 (.ro (.base .int)), .b 1 16 (.ro (.list (.base .read))), .t 25 (.ro (.list (.base .int))), .t 26 (.ro (.base .int)), .t 27 (.ro (.base .int))], boxes := [(1, 17)], ptrs := [(1, 1, 0)] })] Try.f107 iIsValidOpFS.ps iIsValidOpFS.rs iIsValidOpFS.ex a = iIsValidOp a := by kernel_rfl
theorem iIsValidOp_sound : Sound Try.prog iIsValidOpFS :=
  sound_of_den (E := { tt := tt, fs := [iWithinFS] }) (.cons iWithin_callable iWithin_sound (.nil tt_ok)) mixed_ok [(4, { n := 81, its := [.b 1 0 (.ro (.base .int)), .b 1 1 (.ro (.base .int)), .b 1 2 (.ro (.base .int)), .b 1 3 (.ro (.list (.base .int))), .b 1 4 (.ro (.base .int)), .b 1 5 (.ro (.base .int)), .b 1 6 (.ro (.base .int)), .b 1 7 (.ro (.base .int)), .b 1 8 (.ro (.base .int)), .b 1 9 (.ro (.base .str)), .b 1 10 (.ro (.base .str)), .b 1 11 (.ro (.base .int)), .b 1 12 (.ro (.base .str)), .b 1 13 (.ro (.base .str)), .b 1 14 (.ro (.base .int)), .b 1 15 (.ro (.base .int)), .b 1 16 (.ro (.list (.base .read))), .t 25 (.ro (.list (.base .int))), .t 26 (.ro (.base .int)), .t 27 (.ro (.base .int))], boxes := [(1, 17)], ptrs := [(1, 1, 0)] })] (fn := Try.f107) (by kernel_rfl) fun x => iIsValidOp_den x
theorem iOpBefore_callable : callable Try.prog 108 = true := by kernel_rfl
theorem iOpBefore_den (a : GOp) (b : GOp) : denF { tt := tt, fs := [] } [] Try.f108 iOpBeforeFS.ps iOpBeforeFS.rs iOpBeforeFS.ex (a, b) = iOpBefore a b := by kernel_rfl
theorem iOpBefore_sound : Sound Try.prog iOpBeforeFS :=
  sound_of_den (E := { tt := tt, fs := [] }) (.nil tt_ok) mixed_ok [] (fn := Try.f108) (by kernel_rfl) fun x => iOpBefore_den x.1 x.2
theorem iIsValidLog_callable : callable Try.prog 51 = true := by kernel_rfl
theorem iIsValidLog_den (a : List GOp) : denF { tt := tt, fs := [iIsValidOpFS, iOpBeforeFS] } [(2, { n := 33, its := [.t 0 (.ro (.list (.base .op))), .t 5 (.ro (.list (.base .op))), .t 6 (.ro (.base .int)), .t 7 (.ro (.base .int))], boxes := [], ptrs := [] })] Try.f51 iIsValidLogFS.ps iIsValidLogFS.rs iIsValidLogFS.ex a = iIsValidLog a := by kernel_rfl
theorem iIsValidLog_sound : Sound Try.prog iIsValidLogFS :=
  sound_of_den (E := { tt := tt, fs := [iIsValidOpFS, iOpBeforeFS] }) (.cons iIsValidOp_callable iIsValidOp_sound (.cons iOpBefore_callable iOpBefore_sound (.nil tt_ok))) mixed_ok [(2, { n := 33, its := [.t 0 (.ro (.list (.base .op))), .t 5 (.ro (.list (.base .op))), .t 6 (.ro (.base .int)), .t 7 (.ro (.base .int))], boxes := [], ptrs := [] })] (fn := Try.f51) (by kernel_rfl) fun x => iIsValidLog_den x
theorem FnExactIsValidLog_callable : callable Try.prog 9 = true := by kernel_rfl
theorem FnExactIsValidLog_den (a : List GOp) : denF { tt := tt, fs := [szOpSFS, toOpSFS, eqOpSFS, sIsValidLogFS, iIsValidLogFS] } [] Try.f9 FnExactIsValidLogFS.ps FnExactIsValidLogFS.rs FnExactIsValidLogFS.ex a = FnExactIsValidLog a := by kernel_rfl
theorem FnExactIsValidLog_sound : Sound Try.prog FnExactIsValidLogFS :=
  sound_of_den (E := { tt := tt, fs := [szOpSFS, toOpSFS, eqOpSFS, sIsValidLogFS, iIsValidLogFS] }) (.cons szOpS_callable szOpS_sound (.cons toOpS_callable toOpS_sound (.cons eqOpS_callable eqOpS_sound (.cons sIsValidLog_callable sIsValidLog_sound (.cons iIsValidLog_callable iIsValidLog_sound (.nil tt_ok)))))) mixed_ok [] (fn := Try.f9) (by kernel_rfl) fun x => FnExactIsValidLog_den x
theorem sNewReplica_callable : callable Try.prog 52 = true := by kernel_rfl
theorem sNewReplica_den (a : Int) : denF { tt := tt, fs := [sL1InFS] } [] Try.f52 sNewReplicaFS.ps sNewReplicaFS.rs sNewReplicaFS.ex a = sNewReplica a := by kernel_rfl
theorem sNewReplica_sound : Sound Try.prog sNewReplicaFS :=
  sound_of_den (E := { tt := tt, fs := [sL1InFS] }) (.cons sL1In_callable sL1In_sound (.nil tt_ok)) mixed_ok [] (fn := Try.f52) (by kernel_rfl) fun x => sNewReplica_den x
theorem iNewReplica_callable : callable Try.prog 53 = true := by kernel_rfl
theorem iNewReplica_den (a : Int) : denF { tt := tt, fs := [iWithinFS] } [] Try.f53 iNewReplicaFS.ps iNewReplicaFS.rs iNewReplicaFS.ex a = iNewReplica a := by kernel_rfl
theorem iNewReplica_sound : Sound Try.prog iNewReplicaFS :=
  sound_of_den (E := { tt := tt, fs := [iWithinFS] }) (.cons iWithin_callable iWithin_sound (.nil tt_ok)) mixed_ok [] (fn := Try.f53) (by kernel_rfl) fun x => iNewReplica_den x
theorem eqReplica_callable : callable Try.prog 54 = true := by kernel_rfl
theorem eqReplica_den (a : GReplica) (b : GReplica) : denF { tt := tt, fs := [eqOpSFS] } [] Try.f54 eqReplicaFS.ps eqReplicaFS.rs eqReplicaFS.ex (a, b) = eqReplica a b := by kernel_rfl
theorem eqReplica_sound : Sound Try.prog eqReplicaFS :=
  sound_of_den (E := { tt := tt, fs := [eqOpSFS] }) (.cons eqOpS_callable eqOpS_sound (.nil tt_ok)) mixed_ok [] (fn := Try.f54) (by kernel_rfl) fun x => eqReplica_den x.1 x.2
theorem heldStringS_callable : callable Try.prog 165 = true := by kernel_rfl
theorem heldStringS_den (a : List Str) (b : Int) : denF { tt := tt, fs := [markTextFS] } [(2, { n := 22, its := [.t 0 (.ro (.list (.base .str))), .t 1 (.ro (.base .int)), .t 5 (.ro (.base .int))], boxes := [], ptrs := [] })] Try.f165 heldStringSFS.ps heldStringSFS.rs heldStringSFS.ex (a, b) = heldStringS a b := by kernel_rfl
theorem heldStringS_sound : Sound Try.prog heldStringSFS :=
  sound_of_den (E := { tt := tt, fs := [markTextFS] }) (.cons markText_callable markText_sound (.nil tt_ok)) mixed_ok [(2, { n := 22, its := [.t 0 (.ro (.list (.base .str))), .t 1 (.ro (.base .int)), .t 5 (.ro (.base .int))], boxes := [], ptrs := [] })] (fn := Try.f165) (by kernel_rfl) fun x => heldStringS_den x.1 x.2
theorem heldOriginS_callable : callable Try.prog 183 = true := by kernel_rfl
theorem heldOriginS_den (a : List GOrigin) (b : Int) : denF { tt := tt, fs := [] } [(2, { n := 31, its := [.t 0 (.ro (.list (.base .origin))), .t 1 (.ro (.base .int)), .t 5 (.ro (.base .int))], boxes := [], ptrs := [] })] Try.f183 heldOriginSFS.ps heldOriginSFS.rs heldOriginSFS.ex (a, b) = heldOriginS a b := by kernel_rfl
theorem heldOriginS_sound : Sound Try.prog heldOriginSFS :=
  sound_of_den (E := { tt := tt, fs := [] }) (.nil tt_ok) mixed_ok [(2, { n := 31, its := [.t 0 (.ro (.list (.base .origin))), .t 1 (.ro (.base .int)), .t 5 (.ro (.base .int))], boxes := [], ptrs := [] })] (fn := Try.f183) (by kernel_rfl) fun x => heldOriginS_den x.1 x.2
theorem heldRowS_callable : callable Try.prog 166 = true := by kernel_rfl
theorem heldRowS_den (a : List GRow) (b : Int) : denF { tt := tt, fs := [heldIntSFS, heldOriginSFS] } [(2, { n := 31, its := [.t 0 (.ro (.list (.base .row))), .t 1 (.ro (.base .int)), .t 5 (.ro (.base .int))], boxes := [], ptrs := [] })] Try.f166 heldRowSFS.ps heldRowSFS.rs heldRowSFS.ex (a, b) = heldRowS a b := by kernel_rfl
theorem heldRowS_sound : Sound Try.prog heldRowSFS :=
  sound_of_den (E := { tt := tt, fs := [heldIntSFS, heldOriginSFS] }) (.cons heldIntS_callable heldIntS_sound (.cons heldOriginS_callable heldOriginS_sound (.nil tt_ok))) mixed_ok [(2, { n := 31, its := [.t 0 (.ro (.list (.base .row))), .t 1 (.ro (.base .int)), .t 5 (.ro (.base .int))], boxes := [], ptrs := [] })] (fn := Try.f166) (by kernel_rfl) fun x => heldRowS_den x.1 x.2
theorem heldValueS_callable : callable Try.prog 164 = true := by kernel_rfl
theorem heldValueS_den (rheldValueS : (List GVal) → Int → Option (Int)) (a : List GVal) (b : Int) : denF { tt := tt, fs := [markTextFS, heldStringSFS, heldRowSFS, { fid := 164, ps := [⟨false, .list (.base .val)⟩, ⟨false, .base .int⟩], rs := [⟨false, .base .int⟩], ex := true, fn := fun x => rheldValueS x.1 x.2 }] } [(2, { n := 77, its := [.t 0 (.ro (.list (.base .val))), .t 1 (.ro (.base .int)), .t 5 (.ro (.base .int))], boxes := [], ptrs := [] })] Try.f164 heldValueSFS.ps heldValueSFS.rs heldValueSFS.ex (a, b) = heldValueSB rheldValueS a b := by kernel_rfl
theorem heldValueSG_sound : ∀ n, Sound Try.prog (heldValueSFSN n)
  | 0 => (fun w S args x y h => by cases h)
  | n + 1 => by
    have ih := heldValueSG_sound n
    exact sound_of_den (s := heldValueSFSN (n + 1)) (E := { tt := tt, fs := [markTextFS, heldStringSFS, heldRowSFS, heldValueSFSN n] }) (.cons markText_callable markText_sound (.cons heldStringS_callable heldStringS_sound (.cons heldRowS_callable heldRowS_sound (.cons heldValueS_callable ih (.nil tt_ok))))) mixed_ok [(2, { n := 77, its := [.t 0 (.ro (.list (.base .val))), .t 1 (.ro (.base .int)), .t 5 (.ro (.base .int))], boxes := [], ptrs := [] })] (fn := Try.f164) (by kernel_rfl) fun x => heldValueS_den _ x.1 x.2
theorem heldValueS_sound : Sound Try.prog heldValueSFS := fun w S args x y h => (heldValueSG_sound (siz (α := List GVal) x.1 + 1)) w S args x y h
theorem heldReadS_callable : callable Try.prog 141 = true := by kernel_rfl
theorem heldReadS_den (a : List GRead) (b : Int) : denF { tt := tt, fs := [markTextFS, heldValueSFS, heldStringSFS, heldRowSFS] } [(2, { n := 121, its := [.t 0 (.ro (.list (.base .read))), .t 1 (.ro (.base .int)), .t 5 (.ro (.base .int))], boxes := [], ptrs := [] })] Try.f141 heldReadSFS.ps heldReadSFS.rs heldReadSFS.ex (a, b) = heldReadS a b := by kernel_rfl
theorem heldReadS_sound : Sound Try.prog heldReadSFS :=
  sound_of_den (E := { tt := tt, fs := [markTextFS, heldValueSFS, heldStringSFS, heldRowSFS] }) (.cons markText_callable markText_sound (.cons heldValueS_callable heldValueS_sound (.cons heldStringS_callable heldStringS_sound (.cons heldRowS_callable heldRowS_sound (.nil tt_ok))))) mixed_ok [(2, { n := 121, its := [.t 0 (.ro (.list (.base .read))), .t 1 (.ro (.base .int)), .t 5 (.ro (.base .int))], boxes := [], ptrs := [] })] (fn := Try.f141) (by kernel_rfl) fun x => heldReadS_den x.1 x.2
theorem heldOpS_callable : callable Try.prog 110 = true := by kernel_rfl
theorem heldOpS_den (a : List GOp) (b : Int) : denF { tt := tt, fs := [heldIntSFS, markTextFS, heldReadSFS] } [(2, { n := 184, its := [.t 0 (.ro (.list (.base .op))), .t 1 (.ro (.base .int)), .t 5 (.ro (.base .int))], boxes := [], ptrs := [] })] Try.f110 heldOpSFS.ps heldOpSFS.rs heldOpSFS.ex (a, b) = heldOpS a b := by kernel_rfl
theorem heldOpS_sound : Sound Try.prog heldOpSFS :=
  sound_of_den (E := { tt := tt, fs := [heldIntSFS, markTextFS, heldReadSFS] }) (.cons heldIntS_callable heldIntS_sound (.cons markText_callable markText_sound (.cons heldReadS_callable heldReadS_sound (.nil tt_ok)))) mixed_ok [(2, { n := 184, its := [.t 0 (.ro (.list (.base .op))), .t 1 (.ro (.base .int)), .t 5 (.ro (.base .int))], boxes := [], ptrs := [] })] (fn := Try.f110) (by kernel_rfl) fun x => heldOpS_den x.1 x.2
theorem heldReplica_callable : callable Try.prog 56 = true := by kernel_rfl
theorem heldReplica_den (a : GReplica) (b : Int) : denF { tt := tt, fs := [heldOpSFS] } [] Try.f56 heldReplicaFS.ps heldReplicaFS.rs heldReplicaFS.ex (a, b) = heldReplica a b := by kernel_rfl
theorem heldReplica_sound : Sound Try.prog heldReplicaFS :=
  sound_of_den (E := { tt := tt, fs := [heldOpSFS] }) (.cons heldOpS_callable heldOpS_sound (.nil tt_ok)) mixed_ok [] (fn := Try.f56) (by kernel_rfl) fun x => heldReplica_den x.1 x.2
theorem sL1Ints_callable : callable Try.prog 111 = true := by kernel_rfl
theorem sL1Ints_den (a : List Int) (b : List Int) : denF { tt := tt, fs := [] } [(4, { n := 26, its := [.t 0 (.ro (.list (.base .int))), .t 1 (.ro (.list (.base .int))), .t 5 (.ro (.base .int))], boxes := [], ptrs := [] })] Try.f111 sL1IntsFS.ps sL1IntsFS.rs sL1IntsFS.ex (a, b) = sL1Ints a b := by kernel_rfl
theorem sL1Ints_sound : Sound Try.prog sL1IntsFS :=
  sound_of_den (E := { tt := tt, fs := [] }) (.nil tt_ok) mixed_ok [(4, { n := 26, its := [.t 0 (.ro (.list (.base .int))), .t 1 (.ro (.list (.base .int))), .t 5 (.ro (.base .int))], boxes := [], ptrs := [] })] (fn := Try.f111) (by kernel_rfl) fun x => sL1Ints_den x.1 x.2
theorem sL16Same_callable : callable Try.prog 142 = true := by kernel_rfl
theorem sL16Same_den (a : GRead) (b : GRead) : denF { tt := tt, fs := [] } [] Try.f142 sL16SameFS.ps sL16SameFS.rs sL16SameFS.ex (a, b) = sL16Same a b := by kernel_rfl
theorem sL16Same_sound : Sound Try.prog sL16SameFS :=
  sound_of_den (E := { tt := tt, fs := [] }) (.nil tt_ok) mixed_ok [] (fn := Try.f142) (by kernel_rfl) fun x => sL16Same_den x.1 x.2
theorem sL3Texts_callable : callable Try.prog 184 = true := by kernel_rfl
theorem sL3Texts_den (a : List Str) (b : List Str) : denF { tt := tt, fs := [] } [(4, { n := 26, its := [.t 0 (.ro (.list (.base .str))), .t 1 (.ro (.list (.base .str))), .t 5 (.ro (.base .int))], boxes := [], ptrs := [] })] Try.f184 sL3TextsFS.ps sL3TextsFS.rs sL3TextsFS.ex (a, b) = sL3Texts a b := by kernel_rfl
theorem sL3Texts_sound : Sound Try.prog sL3TextsFS :=
  sound_of_den (E := { tt := tt, fs := [] }) (.nil tt_ok) mixed_ok [(4, { n := 26, its := [.t 0 (.ro (.list (.base .str))), .t 1 (.ro (.list (.base .str))), .t 5 (.ro (.base .int))], boxes := [], ptrs := [] })] (fn := Try.f184) (by kernel_rfl) fun x => sL3Texts_den x.1 x.2
theorem sL3Origins_callable : callable Try.prog 185 = true := by kernel_rfl
theorem sL3Origins_den (a : List GOrigin) (b : List GOrigin) : denF { tt := tt, fs := [] } [(4, { n := 26, its := [.t 0 (.ro (.list (.base .origin))), .t 1 (.ro (.list (.base .origin))), .t 5 (.ro (.base .int))], boxes := [], ptrs := [] })] Try.f185 sL3OriginsFS.ps sL3OriginsFS.rs sL3OriginsFS.ex (a, b) = sL3Origins a b := by kernel_rfl
theorem sL3Origins_sound : Sound Try.prog sL3OriginsFS :=
  sound_of_den (E := { tt := tt, fs := [] }) (.nil tt_ok) mixed_ok [(4, { n := 26, its := [.t 0 (.ro (.list (.base .origin))), .t 1 (.ro (.list (.base .origin))), .t 5 (.ro (.base .int))], boxes := [], ptrs := [] })] (fn := Try.f185) (by kernel_rfl) fun x => sL3Origins_den x.1 x.2
theorem sL3Same_callable : callable Try.prog 167 = true := by kernel_rfl
theorem sL3Same_den (rsL3Same : GVal → GVal → Bool → Option (Bool)) (a : GVal) (b : GVal) (c : Bool) : denF { tt := tt, fs := [sL1IntsFS, sL3TextsFS, sL3OriginsFS, { fid := 167, ps := [⟨true, .base .val⟩, ⟨true, .base .val⟩, ⟨false, .base .bool⟩], rs := [⟨false, .base .bool⟩], ex := true, fn := fun x => rsL3Same x.1 x.2.1 x.2.2 }] } [(9, { n := 121, its := [.t 2 (.ro (.base .bool)), .b 3 0 (.ro (.base .int)), .b 3 1 (.ro (.base .int)), .b 3 2 (.ro (.base .int)), .b 3 3 (.ro (.base .str)), .b 3 4 (.ro (.list (.base .val))), .b 3 5 (.ro (.list (.base .str))), .b 3 6 (.ro (.list (.base .row))), .b 4 0 (.ro (.base .int)), .b 4 1 (.ro (.base .int)), .b 4 2 (.ro (.base .int)), .b 4 3 (.ro (.base .str)), .b 4 4 (.ro (.list (.base .val))), .b 4 5 (.ro (.list (.base .str))), .b 4 6 (.ro (.list (.base .row))), .t 8 (.ro (.base .int))], boxes := [(3, 7), (4, 7)], ptrs := [(3, 3, 0), (4, 4, 0)] }), (4, { n := 121, its := [.t 2 (.ro (.base .bool)), .b 3 0 (.ro (.base .int)), .b 3 1 (.ro (.base .int)), .b 3 2 (.ro (.base .int)), .b 3 3 (.ro (.base .str)), .b 3 4 (.ro (.list (.base .val))), .b 3 5 (.ro (.list (.base .str))), .b 3 6 (.ro (.list (.base .row))), .b 4 0 (.ro (.base .int)), .b 4 1 (.ro (.base .int)), .b 4 2 (.ro (.base .int)), .b 4 3 (.ro (.base .str)), .b 4 4 (.ro (.list (.base .val))), .b 4 5 (.ro (.list (.base .str))), .b 4 6 (.ro (.list (.base .row))), .t 7 (.ro (.base .int))], boxes := [(3, 7), (4, 7)], ptrs := [(3, 3, 0), (4, 4, 0)] })] Try.f167 sL3SameFS.ps sL3SameFS.rs sL3SameFS.ex (a, b, c) = sL3SameB rsL3Same a b c := by kernel_rfl
theorem sL3SameG_sound : ∀ n, Sound Try.prog (sL3SameFSN n)
  | 0 => (fun w S args x y h => by cases h)
  | n + 1 => by
    have ih := sL3SameG_sound n
    exact sound_of_den (s := sL3SameFSN (n + 1)) (E := { tt := tt, fs := [sL1IntsFS, sL3TextsFS, sL3OriginsFS, sL3SameFSN n] }) (.cons sL1Ints_callable sL1Ints_sound (.cons sL3Texts_callable sL3Texts_sound (.cons sL3Origins_callable sL3Origins_sound (.cons sL3Same_callable ih (.nil tt_ok))))) mixed_ok [(9, { n := 121, its := [.t 2 (.ro (.base .bool)), .b 3 0 (.ro (.base .int)), .b 3 1 (.ro (.base .int)), .b 3 2 (.ro (.base .int)), .b 3 3 (.ro (.base .str)), .b 3 4 (.ro (.list (.base .val))), .b 3 5 (.ro (.list (.base .str))), .b 3 6 (.ro (.list (.base .row))), .b 4 0 (.ro (.base .int)), .b 4 1 (.ro (.base .int)), .b 4 2 (.ro (.base .int)), .b 4 3 (.ro (.base .str)), .b 4 4 (.ro (.list (.base .val))), .b 4 5 (.ro (.list (.base .str))), .b 4 6 (.ro (.list (.base .row))), .t 8 (.ro (.base .int))], boxes := [(3, 7), (4, 7)], ptrs := [(3, 3, 0), (4, 4, 0)] }), (4, { n := 121, its := [.t 2 (.ro (.base .bool)), .b 3 0 (.ro (.base .int)), .b 3 1 (.ro (.base .int)), .b 3 2 (.ro (.base .int)), .b 3 3 (.ro (.base .str)), .b 3 4 (.ro (.list (.base .val))), .b 3 5 (.ro (.list (.base .str))), .b 3 6 (.ro (.list (.base .row))), .b 4 0 (.ro (.base .int)), .b 4 1 (.ro (.base .int)), .b 4 2 (.ro (.base .int)), .b 4 3 (.ro (.base .str)), .b 4 4 (.ro (.list (.base .val))), .b 4 5 (.ro (.list (.base .str))), .b 4 6 (.ro (.list (.base .row))), .t 7 (.ro (.base .int))], boxes := [(3, 7), (4, 7)], ptrs := [(3, 3, 0), (4, 4, 0)] })] (fn := Try.f167) (by kernel_rfl) fun x => sL3Same_den _ x.1 x.2.1 x.2.2
theorem sL3Same_sound : Sound Try.prog sL3SameFS := fun w S args x y h => (sL3SameG_sound (siz (α := GVal) x.1 + siz (α := GVal) x.2.1 + 1)) w S args x y h
theorem sEqualValue_callable : callable Try.prog 143 = true := by kernel_rfl
theorem sEqualValue_den (a : GVal) (b : GVal) : denF { tt := tt, fs := [sL3SameFS] } [] Try.f143 sEqualValueFS.ps sEqualValueFS.rs sEqualValueFS.ex (a, b) = sEqualValue a b := by kernel_rfl
theorem sEqualValue_sound : Sound Try.prog sEqualValueFS :=
  sound_of_den (E := { tt := tt, fs := [sL3SameFS] }) (.cons sL3Same_callable sL3Same_sound (.nil tt_ok)) mixed_ok [] (fn := Try.f143) (by kernel_rfl) fun x => sEqualValue_den x.1 x.2
theorem sL41Same_callable : callable Try.prog 112 = true := by kernel_rfl
theorem sL41Same_den (a : List GRead) (b : List GRead) : denF { tt := tt, fs := [sL16SameFS, sEqualValueFS] } [(4, { n := 41, its := [.t 0 (.ro (.list (.base .read))), .t 1 (.ro (.list (.base .read))), .t 5 (.ro (.base .int))], boxes := [], ptrs := [] })] Try.f112 sL41SameFS.ps sL41SameFS.rs sL41SameFS.ex (a, b) = sL41Same a b := by kernel_rfl
theorem sL41Same_sound : Sound Try.prog sL41SameFS :=
  sound_of_den (E := { tt := tt, fs := [sL16SameFS, sEqualValueFS] }) (.cons sL16Same_callable sL16Same_sound (.cons sEqualValue_callable sEqualValue_sound (.nil tt_ok))) mixed_ok [(4, { n := 41, its := [.t 0 (.ro (.list (.base .read))), .t 1 (.ro (.list (.base .read))), .t 5 (.ro (.base .int))], boxes := [], ptrs := [] })] (fn := Try.f112) (by kernel_rfl) fun x => sL41Same_den x.1 x.2
theorem sEqualOp_callable : callable Try.prog 57 = true := by kernel_rfl
theorem sEqualOp_den (a : GOp) (b : GOp) : denF { tt := tt, fs := [sL1IntsFS, sL41SameFS] } [] Try.f57 sEqualOpFS.ps sEqualOpFS.rs sEqualOpFS.ex (a, b) = sEqualOp a b := by kernel_rfl
theorem sEqualOp_sound : Sound Try.prog sEqualOpFS :=
  sound_of_den (E := { tt := tt, fs := [sL1IntsFS, sL41SameFS] }) (.cons sL1Ints_callable sL1Ints_sound (.cons sL41Same_callable sL41Same_sound (.nil tt_ok))) mixed_ok [] (fn := Try.f57) (by kernel_rfl) fun x => sEqualOp_den x.1 x.2
theorem iSameInt_callable : callable Try.prog 113 = true := by kernel_rfl
theorem iSameInt_den (a : List Int) (b : List Int) : denF { tt := tt, fs := [] } [(4, { n := 26, its := [.t 0 (.ro (.list (.base .int))), .t 1 (.ro (.list (.base .int))), .t 12 (.ro (.base .int)), .t 13 (.ro (.base .int))], boxes := [], ptrs := [] })] Try.f113 iSameIntFS.ps iSameIntFS.rs iSameIntFS.ex (a, b) = iSameInt a b := by kernel_rfl
theorem iSameInt_sound : Sound Try.prog iSameIntFS :=
  sound_of_den (E := { tt := tt, fs := [] }) (.nil tt_ok) mixed_ok [(4, { n := 26, its := [.t 0 (.ro (.list (.base .int))), .t 1 (.ro (.list (.base .int))), .t 12 (.ro (.base .int)), .t 13 (.ro (.base .int))], boxes := [], ptrs := [] })] (fn := Try.f113) (by kernel_rfl) fun x => iSameInt_den x.1 x.2
theorem iSameRead_callable : callable Try.prog 144 = true := by kernel_rfl
theorem iSameRead_den (a : GRead) (b : GRead) : denF { tt := tt, fs := [] } [] Try.f144 iSameReadFS.ps iSameReadFS.rs iSameReadFS.ex (a, b) = iSameRead a b := by kernel_rfl
theorem iSameRead_sound : Sound Try.prog iSameReadFS :=
  sound_of_den (E := { tt := tt, fs := [] }) (.nil tt_ok) mixed_ok [] (fn := Try.f144) (by kernel_rfl) fun x => iSameRead_den x.1 x.2
theorem iSameString_callable : callable Try.prog 186 = true := by kernel_rfl
theorem iSameString_den (a : List Str) (b : List Str) : denF { tt := tt, fs := [] } [(4, { n := 26, its := [.t 0 (.ro (.list (.base .str))), .t 1 (.ro (.list (.base .str))), .t 12 (.ro (.base .int)), .t 13 (.ro (.base .int))], boxes := [], ptrs := [] })] Try.f186 iSameStringFS.ps iSameStringFS.rs iSameStringFS.ex (a, b) = iSameString a b := by kernel_rfl
theorem iSameString_sound : Sound Try.prog iSameStringFS :=
  sound_of_den (E := { tt := tt, fs := [] }) (.nil tt_ok) mixed_ok [(4, { n := 26, its := [.t 0 (.ro (.list (.base .str))), .t 1 (.ro (.list (.base .str))), .t 12 (.ro (.base .int)), .t 13 (.ro (.base .int))], boxes := [], ptrs := [] })] (fn := Try.f186) (by kernel_rfl) fun x => iSameString_den x.1 x.2
end Go.Proofs.Ytiedhibpaooldaa
