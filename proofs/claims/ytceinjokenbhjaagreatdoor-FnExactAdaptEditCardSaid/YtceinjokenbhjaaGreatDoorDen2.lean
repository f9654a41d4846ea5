/- The functions compute their models, by gen.py. -/
import Derived.Test.YtceinjokenbhjaaGreatDoorDen1
namespace Go.Proofs.YtceinjokenbhjaaGreatDoor
open Go.Abs Go.Proofs
set_option maxRecDepth 100000
theorem sLevelOf_callable : callable Tryz.prog 74 = true := by kernel_rfl
theorem sLevelOf_den (a : GExpr) : denF { tt := tt, fs := [] } [] Tryz.f74 sLevelOfFS.ps sLevelOfFS.rs sLevelOfFS.ex a = sLevelOf a := by kernel_rfl
theorem sLevelOf_sound : Sound Tryz.prog sLevelOfFS :=
  sound_of_den (E := { tt := tt, fs := [] }) (.nil tt_ok) mixed_ok [] (fn := Tryz.f74) (by kernel_rfl) fun x => sLevelOf_den x
theorem sOpSymbol_callable : callable Tryz.prog 76 = true := by kernel_rfl
theorem sOpSymbol_den (a : Int) : denF { tt := tt, fs := [sL1InFS] } [] Tryz.f76 sOpSymbolFS.ps sOpSymbolFS.rs sOpSymbolFS.ex a = sOpSymbol a := by kernel_rfl
theorem sOpSymbol_sound : Sound Tryz.prog sOpSymbolFS :=
  sound_of_den (E := { tt := tt, fs := [sL1InFS] }) (.cons sL1In_callable sL1In_sound (.nil tt_ok)) mixed_ok [] (fn := Tryz.f76) (by kernel_rfl) fun x => sOpSymbol_den x
theorem sL12Text_callable : callable Tryz.prog 46 = true := by kernel_rfl
theorem sL12List_callable : callable Tryz.prog 73 = true := by kernel_rfl
theorem sL12At_callable : callable Tryz.prog 75 = true := by kernel_rfl
theorem sL12Text_den (rsL12Text : GExpr → Option (Str)) (rsL12List : (List GExpr) → Option (Str)) (rsL12At : GExpr → Int → Option (Str)) (a : GExpr) : denF { tt := tt, fs := [sFormatIntFS, sLevelOfFS, sOpSymbolFS, sJoinFS, { fid := 46, ps := [⟨true, .base .expr⟩], rs := [⟨false, .base .str⟩], ex := true, fn := fun x => rsL12Text x }, { fid := 73, ps := [⟨false, .list (.base .expr)⟩], rs := [⟨false, .base .str⟩], ex := true, fn := fun x => rsL12List x }, { fid := 75, ps := [⟨true, .base .expr⟩, ⟨false, .base .int⟩], rs := [⟨false, .base .str⟩], ex := true, fn := fun x => rsL12At x.1 x.2 }] } [] Tryz.f46 sL12TextFS.ps sL12TextFS.rs sL12TextFS.ex a = sL12TextB rsL12Text rsL12List rsL12At a := by kernel_rfl
theorem sL12List_den (rsL12Text : GExpr → Option (Str)) (rsL12List : (List GExpr) → Option (Str)) (rsL12At : GExpr → Int → Option (Str)) (a : List GExpr) : denF { tt := tt, fs := [sFormatIntFS, sLevelOfFS, sOpSymbolFS, sJoinFS, { fid := 46, ps := [⟨true, .base .expr⟩], rs := [⟨false, .base .str⟩], ex := true, fn := fun x => rsL12Text x }, { fid := 73, ps := [⟨false, .list (.base .expr)⟩], rs := [⟨false, .base .str⟩], ex := true, fn := fun x => rsL12List x }, { fid := 75, ps := [⟨true, .base .expr⟩, ⟨false, .base .int⟩], rs := [⟨false, .base .str⟩], ex := true, fn := fun x => rsL12At x.1 x.2 }] } [(3, { n := 22, its := [.t 0 (.ro (.list (.base .expr))), .t 3 (.own (.base .str) true true 0), .t 4 (.ro (.base .int))], boxes := [], ptrs := [] })] Tryz.f73 sL12ListFS.ps sL12ListFS.rs sL12ListFS.ex a = sL12ListB rsL12Text rsL12List rsL12At a := by kernel_rfl
theorem sL12At_den (rsL12Text : GExpr → Option (Str)) (rsL12List : (List GExpr) → Option (Str)) (rsL12At : GExpr → Int → Option (Str)) (a : GExpr) (b : Int) : denF { tt := tt, fs := [sFormatIntFS, sLevelOfFS, sOpSymbolFS, sJoinFS, { fid := 46, ps := [⟨true, .base .expr⟩], rs := [⟨false, .base .str⟩], ex := true, fn := fun x => rsL12Text x }, { fid := 73, ps := [⟨false, .list (.base .expr)⟩], rs := [⟨false, .base .str⟩], ex := true, fn := fun x => rsL12List x }, { fid := 75, ps := [⟨true, .base .expr⟩, ⟨false, .base .int⟩], rs := [⟨false, .base .str⟩], ex := true, fn := fun x => rsL12At x.1 x.2 }] } [] Tryz.f75 sL12AtFS.ps sL12AtFS.rs sL12AtFS.ex (a, b) = sL12AtB rsL12Text rsL12List rsL12At a b := by kernel_rfl
theorem sL12TextG_sound : ∀ n, Sound Tryz.prog (sL12TextFSN n) ∧ Sound Tryz.prog (sL12ListFSN n) ∧ Sound Tryz.prog (sL12AtFSN n)
  | 0 => ⟨(fun w S args x y h => by cases h), (fun w S args x y h => by cases h), (fun w S args x y h => by cases h)⟩
  | n + 1 => by
    have ih := sL12TextG_sound n
    exact ⟨sound_of_den (s := sL12TextFSN (n + 1)) (E := { tt := tt, fs := [sFormatIntFS, sLevelOfFS, sOpSymbolFS, sJoinFS, sL12TextFSN n, sL12ListFSN n, sL12AtFSN n] }) (.cons sFormatInt_callable sFormatInt_sound (.cons sLevelOf_callable sLevelOf_sound (.cons sOpSymbol_callable sOpSymbol_sound (.cons sJoin_callable sJoin_sound (.cons sL12Text_callable ih.1 (.cons sL12List_callable ih.2.1 (.cons sL12At_callable ih.2.2 (.nil tt_ok)))))))) mixed_ok [] (fn := Tryz.f46) (by kernel_rfl) fun x => sL12Text_den _ _ _ x, sound_of_den (s := sL12ListFSN (n + 1)) (E := { tt := tt, fs := [sFormatIntFS, sLevelOfFS, sOpSymbolFS, sJoinFS, sL12TextFSN n, sL12ListFSN n, sL12AtFSN n] }) (.cons sFormatInt_callable sFormatInt_sound (.cons sLevelOf_callable sLevelOf_sound (.cons sOpSymbol_callable sOpSymbol_sound (.cons sJoin_callable sJoin_sound (.cons sL12Text_callable ih.1 (.cons sL12List_callable ih.2.1 (.cons sL12At_callable ih.2.2 (.nil tt_ok)))))))) mixed_ok [(3, { n := 22, its := [.t 0 (.ro (.list (.base .expr))), .t 3 (.own (.base .str) true true 0), .t 4 (.ro (.base .int))], boxes := [], ptrs := [] })] (fn := Tryz.f73) (by kernel_rfl) fun x => sL12List_den _ _ _ x, sound_of_den (s := sL12AtFSN (n + 1)) (E := { tt := tt, fs := [sFormatIntFS, sLevelOfFS, sOpSymbolFS, sJoinFS, sL12TextFSN n, sL12ListFSN n, sL12AtFSN n] }) (.cons sFormatInt_callable sFormatInt_sound (.cons sLevelOf_callable sLevelOf_sound (.cons sOpSymbol_callable sOpSymbol_sound (.cons sJoin_callable sJoin_sound (.cons sL12Text_callable ih.1 (.cons sL12List_callable ih.2.1 (.cons sL12At_callable ih.2.2 (.nil tt_ok)))))))) mixed_ok [] (fn := Tryz.f75) (by kernel_rfl) fun x => sL12At_den _ _ _ x.1 x.2⟩
theorem sL12Text_sound : Sound Tryz.prog sL12TextFS := fun w S args x y h => (sL12TextG_sound (siz (α := GExpr) x + 1)).1 w S args x y h
theorem sFormatExpr_callable : callable Tryz.prog 26 = true := by kernel_rfl
theorem sFormatExpr_den (a : GExpr) : denF { tt := tt, fs := [sIsValidExprFS, sL12TextFS] } [] Tryz.f26 sFormatExprFS.ps sFormatExprFS.rs sFormatExprFS.ex a = sFormatExpr a := by kernel_rfl
theorem sFormatExpr_sound : Sound Tryz.prog sFormatExprFS :=
  sound_of_den (E := { tt := tt, fs := [sIsValidExprFS, sL12TextFS] }) (.cons sIsValidExpr_callable sIsValidExpr_sound (.cons sL12Text_callable sL12Text_sound (.nil tt_ok))) mixed_ok [] (fn := Tryz.f26) (by kernel_rfl) fun x => sFormatExpr_den x
theorem sL42Code_callable : callable Tryz.prog 14 = true := by kernel_rfl
theorem sL42Code_den (a : Str) (b : Str) (c : Str) : denF { tt := tt, fs := [sParseExprFS, sL1HasFS, sFreeNamesFS, sRenameFreeFS, sFormatExprFS] } [] Tryz.f14 sL42CodeFS.ps sL42CodeFS.rs sL42CodeFS.ex (a, b, c) = sL42Code a b c := by kernel_rfl
theorem sL42Code_sound : Sound Tryz.prog sL42CodeFS :=
  sound_of_den (E := { tt := tt, fs := [sParseExprFS, sL1HasFS, sFreeNamesFS, sRenameFreeFS, sFormatExprFS] }) (.cons sParseExpr_callable sParseExpr_sound (.cons sL1Has_callable sL1Has_sound (.cons sFreeNames_callable sFreeNames_sound (.cons sRenameFree_callable sRenameFree_sound (.cons sFormatExpr_callable sFormatExpr_sound (.nil tt_ok)))))) mixed_ok [] (fn := Tryz.f14) (by kernel_rfl) fun x => sL42Code_den x.1 x.2.1 x.2.2
theorem sAdaptEdit_callable : callable Tryz.prog 6 = true := by kernel_rfl
theorem sAdaptEdit_den (a : GEdit) (b : List GOp) : denF { tt := tt, fs := [sL42CodeFS] } [(2, { n := 52, its := [.t 1 (.ro (.list (.base .op))), .b 2 0 (.ro (.base .int)), .b 2 1 (.ro (.base .int)), .b 2 2 (.ro (.base .int)), .b 2 3 (.ro (.base .int)), .b 2 4 (.ro (.base .int)), .b 2 5 (.ro (.base .str)), .b 2 6 (.ro (.base .str)), .b 2 7 (.ro (.base .int)), .b 4 0 (.ro (.base .int)), .b 4 1 (.ro (.base .int)), .b 4 2 (.ro (.base .int)), .b 4 3 (.ro (.base .int)), .b 4 4 (.ro (.base .int)), .b 4 5 (.ro (.base .str)), .b 4 6 (.ro (.base .str)), .b 4 7 (.ro (.base .int)), .t 5 (.ro (.base .int))], boxes := [(2, 8), (4, 8)], ptrs := [(2, 2, 0), (4, 4, 0)] })] Tryz.f6 sAdaptEditFS.ps sAdaptEditFS.rs sAdaptEditFS.ex (a, b) = sAdaptEdit a b := by kernel_rfl
theorem sAdaptEdit_sound : Sound Tryz.prog sAdaptEditFS :=
  sound_of_den (E := { tt := tt, fs := [sL42CodeFS] }) (.cons sL42Code_callable sL42Code_sound (.nil tt_ok)) mixed_ok [(2, { n := 52, its := [.t 1 (.ro (.list (.base .op))), .b 2 0 (.ro (.base .int)), .b 2 1 (.ro (.base .int)), .b 2 2 (.ro (.base .int)), .b 2 3 (.ro (.base .int)), .b 2 4 (.ro (.base .int)), .b 2 5 (.ro (.base .str)), .b 2 6 (.ro (.base .str)), .b 2 7 (.ro (.base .int)), .b 4 0 (.ro (.base .int)), .b 4 1 (.ro (.base .int)), .b 4 2 (.ro (.base .int)), .b 4 3 (.ro (.base .int)), .b 4 4 (.ro (.base .int)), .b 4 5 (.ro (.base .str)), .b 4 6 (.ro (.base .str)), .b 4 7 (.ro (.base .int)), .t 5 (.ro (.base .int))], boxes := [(2, 8), (4, 8)], ptrs := [(2, 2, 0), (4, 4, 0)] })] (fn := Tryz.f6) (by kernel_rfl) fun x => sAdaptEdit_den x.1 x.2
theorem toCell_callable : callable Tryz.prog 15 = true := by kernel_rfl
theorem toCell_den (a : GCell) : denF { tt := tt, fs := [] } [] Tryz.f15 toCellFS.ps toCellFS.rs toCellFS.ex a = toCell a := by kernel_rfl
theorem toCell_sound : Sound Tryz.prog toCellFS :=
  sound_of_den (E := { tt := tt, fs := [] }) (.nil tt_ok) mixed_ok [] (fn := Tryz.f15) (by kernel_rfl) fun x => toCell_den x
theorem toEdit_callable : callable Tryz.prog 7 = true := by kernel_rfl
theorem toEdit_den (a : GEdit) : denF { tt := tt, fs := [toCellFS] } [] Tryz.f7 toEditFS.ps toEditFS.rs toEditFS.ex a = toEdit a := by kernel_rfl
theorem toEdit_sound : Sound Tryz.prog toEditFS :=
  sound_of_den (E := { tt := tt, fs := [toCellFS] }) (.cons toCell_callable toCell_sound (.nil tt_ok)) mixed_ok [] (fn := Tryz.f7) (by kernel_rfl) fun x => toEdit_den x
theorem toIntS_callable : callable Tryz.prog 27 = true := by kernel_rfl
theorem toIntS_den (a : List Int) : denF { tt := tt, fs := [] } [(3, { n := 22, its := [.t 0 (.ro (.list (.base .int))), .t 3 (.own (.base .int) true true 0), .t 4 (.ro (.base .int))], boxes := [], ptrs := [] })] Tryz.f27 toIntSFS.ps toIntSFS.rs toIntSFS.ex a = toIntS a := by kernel_rfl
theorem toIntS_sound : Sound Tryz.prog toIntSFS :=
  sound_of_den (E := { tt := tt, fs := [] }) (.nil tt_ok) mixed_ok [(3, { n := 22, its := [.t 0 (.ro (.list (.base .int))), .t 3 (.own (.base .int) true true 0), .t 4 (.ro (.base .int))], boxes := [], ptrs := [] })] (fn := Tryz.f27) (by kernel_rfl) fun x => toIntS_den x
theorem toStringS_callable : callable Tryz.prog 117 = true := by kernel_rfl
theorem toStringS_den (a : List Str) : denF { tt := tt, fs := [] } [(3, { n := 22, its := [.t 0 (.ro (.list (.base .str))), .t 3 (.own (.base .str) true true 0), .t 4 (.ro (.base .int))], boxes := [], ptrs := [] })] Tryz.f117 toStringSFS.ps toStringSFS.rs toStringSFS.ex a = toStringS a := by kernel_rfl
theorem toStringS_sound : Sound Tryz.prog toStringSFS :=
  sound_of_den (E := { tt := tt, fs := [] }) (.nil tt_ok) mixed_ok [(3, { n := 22, its := [.t 0 (.ro (.list (.base .str))), .t 3 (.own (.base .str) true true 0), .t 4 (.ro (.base .int))], boxes := [], ptrs := [] })] (fn := Tryz.f117) (by kernel_rfl) fun x => toStringS_den x
theorem toOrigin_callable : callable Tryz.prog 175 = true := by kernel_rfl
theorem toOrigin_den (a : GOrigin) : denF { tt := tt, fs := [] } [] Tryz.f175 toOriginFS.ps toOriginFS.rs toOriginFS.ex a = toOrigin a := by kernel_rfl
theorem toOrigin_sound : Sound Tryz.prog toOriginFS :=
  sound_of_den (E := { tt := tt, fs := [] }) (.nil tt_ok) mixed_ok [] (fn := Tryz.f175) (by kernel_rfl) fun x => toOrigin_den x
theorem toOriginS_callable : callable Tryz.prog 151 = true := by kernel_rfl
theorem toOriginS_den (a : List GOrigin) : denF { tt := tt, fs := [toOriginFS] } [(3, { n := 23, its := [.t 0 (.ro (.list (.base .origin))), .t 3 (.own (.base .origin) true true 0), .t 4 (.ro (.base .int))], boxes := [], ptrs := [] })] Tryz.f151 toOriginSFS.ps toOriginSFS.rs toOriginSFS.ex a = toOriginS a := by kernel_rfl
theorem toOriginS_sound : Sound Tryz.prog toOriginSFS :=
  sound_of_den (E := { tt := tt, fs := [toOriginFS] }) (.cons toOrigin_callable toOrigin_sound (.nil tt_ok)) mixed_ok [(3, { n := 23, its := [.t 0 (.ro (.list (.base .origin))), .t 3 (.own (.base .origin) true true 0), .t 4 (.ro (.base .int))], boxes := [], ptrs := [] })] (fn := Tryz.f151) (by kernel_rfl) fun x => toOriginS_den x
theorem toRow_callable : callable Tryz.prog 139 = true := by kernel_rfl
theorem toRow_den (a : GRow) : denF { tt := tt, fs := [toIntSFS, toOriginSFS] } [] Tryz.f139 toRowFS.ps toRowFS.rs toRowFS.ex a = toRow a := by kernel_rfl
theorem toRow_sound : Sound Tryz.prog toRowFS :=
  sound_of_den (E := { tt := tt, fs := [toIntSFS, toOriginSFS] }) (.cons toIntS_callable toIntS_sound (.cons toOriginS_callable toOriginS_sound (.nil tt_ok))) mixed_ok [] (fn := Tryz.f139) (by kernel_rfl) fun x => toRow_den x
theorem toRowS_callable : callable Tryz.prog 118 = true := by kernel_rfl
theorem toRowS_den (a : List GRow) : denF { tt := tt, fs := [toRowFS] } [(3, { n := 23, its := [.t 0 (.ro (.list (.base .row))), .t 3 (.own (.base .row) true true 0), .t 4 (.ro (.base .int))], boxes := [], ptrs := [] })] Tryz.f118 toRowSFS.ps toRowSFS.rs toRowSFS.ex a = toRowS a := by kernel_rfl
theorem toRowS_sound : Sound Tryz.prog toRowSFS :=
  sound_of_den (E := { tt := tt, fs := [toRowFS] }) (.cons toRow_callable toRow_sound (.nil tt_ok)) mixed_ok [(3, { n := 23, its := [.t 0 (.ro (.list (.base .row))), .t 3 (.own (.base .row) true true 0), .t 4 (.ro (.base .int))], boxes := [], ptrs := [] })] (fn := Tryz.f118) (by kernel_rfl) fun x => toRowS_den x
theorem toValue_callable : callable Tryz.prog 77 = true := by kernel_rfl
theorem toValueS_callable : callable Tryz.prog 116 = true := by kernel_rfl
theorem toValue_den (rtoValue : GVal → Option (GVal)) (rtoValueS : (List GVal) → Option ((List GVal))) (a : GVal) : denF { tt := tt, fs := [toStringSFS, toRowSFS, { fid := 77, ps := [⟨true, .base .val⟩], rs := [⟨true, .base .val⟩], ex := true, fn := fun x => rtoValue x }, { fid := 116, ps := [⟨false, .list (.base .val)⟩], rs := [⟨false, .list (.base .val)⟩], ex := true, fn := fun x => rtoValueS x }] } [] Tryz.f77 toValueFS.ps toValueFS.rs toValueFS.ex a = toValueB rtoValue rtoValueS a := by kernel_rfl
theorem toValueS_den (rtoValue : GVal → Option (GVal)) (rtoValueS : (List GVal) → Option ((List GVal))) (a : List GVal) : denF { tt := tt, fs := [toStringSFS, toRowSFS, { fid := 77, ps := [⟨true, .base .val⟩], rs := [⟨true, .base .val⟩], ex := true, fn := fun x => rtoValue x }, { fid := 116, ps := [⟨false, .list (.base .val)⟩], rs := [⟨false, .list (.base .val)⟩], ex := true, fn := fun x => rtoValueS x }] } [(3, { n := 23, its := [.t 0 (.ro (.list (.base .val))), .t 3 (.own (.base .val) true true 0), .t 4 (.ro (.base .int))], boxes := [], ptrs := [] })] Tryz.f116 toValueSFS.ps toValueSFS.rs toValueSFS.ex a = toValueSB rtoValue rtoValueS a := by kernel_rfl
theorem toValueG_sound : ∀ n, Sound Tryz.prog (toValueFSN n) ∧ Sound Tryz.prog (toValueSFSN n)
  | 0 => ⟨(fun w S args x y h => by cases h), (fun w S args x y h => by cases h)⟩
  | n + 1 => by
    have ih := toValueG_sound n
    exact ⟨sound_of_den (s := toValueFSN (n + 1)) (E := { tt := tt, fs := [toStringSFS, toRowSFS, toValueFSN n, toValueSFSN n] }) (.cons toStringS_callable toStringS_sound (.cons toRowS_callable toRowS_sound (.cons toValue_callable ih.1 (.cons toValueS_callable ih.2 (.nil tt_ok))))) mixed_ok [] (fn := Tryz.f77) (by kernel_rfl) fun x => toValue_den _ _ x, sound_of_den (s := toValueSFSN (n + 1)) (E := { tt := tt, fs := [toStringSFS, toRowSFS, toValueFSN n, toValueSFSN n] }) (.cons toStringS_callable toStringS_sound (.cons toRowS_callable toRowS_sound (.cons toValue_callable ih.1 (.cons toValueS_callable ih.2 (.nil tt_ok))))) mixed_ok [(3, { n := 23, its := [.t 0 (.ro (.list (.base .val))), .t 3 (.own (.base .val) true true 0), .t 4 (.ro (.base .int))], boxes := [], ptrs := [] })] (fn := Tryz.f116) (by kernel_rfl) fun x => toValueS_den _ _ x⟩
theorem toValue_sound : Sound Tryz.prog toValueFS := fun w S args x y h => (toValueG_sound (siz (α := GVal) x + 1)).1 w S args x y h
theorem toRead_callable : callable Tryz.prog 47 = true := by kernel_rfl
theorem toRead_den (a : GRead) : denF { tt := tt, fs := [toValueFS] } [] Tryz.f47 toReadFS.ps toReadFS.rs toReadFS.ex a = toRead a := by kernel_rfl
theorem toRead_sound : Sound Tryz.prog toReadFS :=
  sound_of_den (E := { tt := tt, fs := [toValueFS] }) (.cons toValue_callable toValue_sound (.nil tt_ok)) mixed_ok [] (fn := Tryz.f47) (by kernel_rfl) fun x => toRead_den x
theorem toReadS_callable : callable Tryz.prog 28 = true := by kernel_rfl
theorem toReadS_den (a : List GRead) : denF { tt := tt, fs := [toReadFS] } [(3, { n := 23, its := [.t 0 (.ro (.list (.base .read))), .t 3 (.own (.base .read) true true 0), .t 4 (.ro (.base .int))], boxes := [], ptrs := [] })] Tryz.f28 toReadSFS.ps toReadSFS.rs toReadSFS.ex a = toReadS a := by kernel_rfl
theorem toReadS_sound : Sound Tryz.prog toReadSFS :=
  sound_of_den (E := { tt := tt, fs := [toReadFS] }) (.cons toRead_callable toRead_sound (.nil tt_ok)) mixed_ok [(3, { n := 23, its := [.t 0 (.ro (.list (.base .read))), .t 3 (.own (.base .read) true true 0), .t 4 (.ro (.base .int))], boxes := [], ptrs := [] })] (fn := Tryz.f28) (by kernel_rfl) fun x => toReadS_den x
theorem toOp_callable : callable Tryz.prog 16 = true := by kernel_rfl
theorem toOp_den (a : GOp) : denF { tt := tt, fs := [toEditFS, toIntSFS, toReadSFS] } [] Tryz.f16 toOpFS.ps toOpFS.rs toOpFS.ex a = toOp a := by kernel_rfl
theorem toOp_sound : Sound Tryz.prog toOpFS :=
  sound_of_den (E := { tt := tt, fs := [toEditFS, toIntSFS, toReadSFS] }) (.cons toEdit_callable toEdit_sound (.cons toIntS_callable toIntS_sound (.cons toReadS_callable toReadS_sound (.nil tt_ok)))) mixed_ok [] (fn := Tryz.f16) (by kernel_rfl) fun x => toOp_den x
theorem toOpS_callable : callable Tryz.prog 8 = true := by kernel_rfl
theorem toOpS_den (a : List GOp) : denF { tt := tt, fs := [toOpFS] } [(3, { n := 23, its := [.t 0 (.ro (.list (.base .op))), .t 3 (.own (.base .op) true true 0), .t 4 (.ro (.base .int))], boxes := [], ptrs := [] })] Tryz.f8 toOpSFS.ps toOpSFS.rs toOpSFS.ex a = toOpS a := by kernel_rfl
theorem toOpS_sound : Sound Tryz.prog toOpSFS :=
  sound_of_den (E := { tt := tt, fs := [toOpFS] }) (.cons toOp_callable toOp_sound (.nil tt_ok)) mixed_ok [(3, { n := 23, its := [.t 0 (.ro (.list (.base .op))), .t 3 (.own (.base .op) true true 0), .t 4 (.ro (.base .int))], boxes := [], ptrs := [] })] (fn := Tryz.f8) (by kernel_rfl) fun x => toOpS_den x
theorem iParse_callable : callable Tryz.prog 119 = true := by kernel_rfl
theorem libIndexByte_callable : callable Tryz.prog 120 = true := by kernel_rfl
theorem iIsValidText_callable : callable Tryz.prog 121 = true := by kernel_rfl
theorem iIsValidText_den (a : Str) : denF { tt := tt, fs := [] } [(2, { n := 29, its := [.t 0 (.ro (.base .str)), .t 3 (.ro (.base .int))], boxes := [], ptrs := [] })] Tryz.f121 iIsValidTextFS.ps iIsValidTextFS.rs iIsValidTextFS.ex a = iIsValidText a := by kernel_rfl
theorem iIsValidText_sound : Sound Tryz.prog iIsValidTextFS :=
  sound_of_den (E := { tt := tt, fs := [] }) (.nil tt_ok) mixed_ok [(2, { n := 29, its := [.t 0 (.ro (.base .str)), .t 3 (.ro (.base .int))], boxes := [], ptrs := [] })] (fn := Tryz.f121) (by kernel_rfl) fun x => iIsValidText_den x
theorem libHasPrefix_callable : callable Tryz.prog 122 = true := by kernel_rfl
theorem iTokenAt_callable : callable Tryz.prog 78 = true := by kernel_rfl
theorem iTokenAt_den (a : Str) (b : Int) : denF { tt := tt, fs := [iParseFS, libIndexByteFS, iIsValidTextFS, libHasPrefixFS] } [(4, { n := 152, its := [.t 0 (.ro (.base .str)), .t 1 (.ro (.base .int)), .b 4 0 (.ro (.base .int)), .b 4 1 (.ro (.base .int)), .b 4 2 (.ro (.base .int)), .b 4 3 (.ro (.base .str)), .t 7 (.ro (.base .int))], boxes := [(4, 4)], ptrs := [(4, 4, 0)] }), (8, { n := 152, its := [.t 0 (.ro (.base .str)), .t 1 (.ro (.base .int)), .b 4 0 (.ro (.base .int)), .b 4 1 (.ro (.base .int)), .b 4 2 (.ro (.base .int)), .b 4 3 (.ro (.base .str)), .t 7 (.ro (.base .int))], boxes := [(4, 4)], ptrs := [(4, 4, 0)] })] Tryz.f78 iTokenAtFS.ps iTokenAtFS.rs iTokenAtFS.ex (a, b) = iTokenAt a b := by kernel_rfl
theorem iTokenAt_sound : Sound Tryz.prog iTokenAtFS :=
  sound_of_den (E := { tt := tt, fs := [iParseFS, libIndexByteFS, iIsValidTextFS, libHasPrefixFS] }) (.cons iParse_callable iParse_sound (.cons libIndexByte_callable libIndexByte_sound (.cons iIsValidText_callable iIsValidText_sound (.cons libHasPrefix_callable libHasPrefix_sound (.nil tt_ok))))) mixed_ok [(4, { n := 152, its := [.t 0 (.ro (.base .str)), .t 1 (.ro (.base .int)), .b 4 0 (.ro (.base .int)), .b 4 1 (.ro (.base .int)), .b 4 2 (.ro (.base .int)), .b 4 3 (.ro (.base .str)), .t 7 (.ro (.base .int))], boxes := [(4, 4)], ptrs := [(4, 4, 0)] }), (8, { n := 152, its := [.t 0 (.ro (.base .str)), .t 1 (.ro (.base .int)), .b 4 0 (.ro (.base .int)), .b 4 1 (.ro (.base .int)), .b 4 2 (.ro (.base .int)), .b 4 3 (.ro (.base .str)), .t 7 (.ro (.base .int))], boxes := [(4, 4)], ptrs := [(4, 4, 0)] })] (fn := Tryz.f78) (by kernel_rfl) fun x => iTokenAt_den x.1 x.2
theorem iTokenize_callable : callable Tryz.prog 48 = true := by kernel_rfl
theorem iTokenize_den (a : Str) : denF { tt := tt, fs := [iTokenAtFS] } [(5, { n := 44, its := [.t 0 (.ro (.base .str)), .t 4 (.own (.base .token) true true 0), .t 5 (.ro (.base .int))], boxes := [], ptrs := [] })] Tryz.f48 iTokenizeFS.ps iTokenizeFS.rs iTokenizeFS.ex a = iTokenize a := by kernel_rfl
theorem iTokenize_sound : Sound Tryz.prog iTokenizeFS :=
  sound_of_den (E := { tt := tt, fs := [iTokenAtFS] }) (.cons iTokenAt_callable iTokenAt_sound (.nil tt_ok)) mixed_ok [(5, { n := 44, its := [.t 0 (.ro (.base .str)), .t 4 (.own (.base .token) true true 0), .t 5 (.ro (.base .int))], boxes := [], ptrs := [] })] (fn := Tryz.f48) (by kernel_rfl) fun x => iTokenize_den x
theorem iIsKeyword_callable : callable Tryz.prog 79 = true := by kernel_rfl
theorem iIsKeyword_den (a : GToken) (b : Str) : denF { tt := tt, fs := [] } [] Tryz.f79 iIsKeywordFS.ps iIsKeywordFS.rs iIsKeywordFS.ex (a, b) = iIsKeyword a b := by kernel_rfl
theorem iIsKeyword_sound : Sound Tryz.prog iIsKeywordFS :=
  sound_of_den (E := { tt := tt, fs := [] }) (.nil tt_ok) mixed_ok [] (fn := Tryz.f79) (by kernel_rfl) fun x => iIsKeyword_den x.1 x.2
theorem iParserNext_callable : callable Tryz.prog 80 = true := by kernel_rfl
theorem iParserNext_den (a : GPsr) : denB { tt := tt, fs := [] } [] Tryz.f80 iParserNextFS.ps iParserNextFS.rs iParserNextFS.sh a = iParserNext a := by kernel_rfl
theorem iParserNext_sound : BSound Tryz.prog iParserNextFS :=
  bsound_of_den (E := { tt := tt, fs := [] }) (.nil tt_ok) mixed_ok [] (fn := Tryz.f80) (by kernel_rfl) fun x => iParserNext_den x
end Go.Proofs.YtceinjokenbhjaaGreatDoor
