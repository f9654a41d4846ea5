/- The functions compute their models, by gen.py. -/
import Derived.Test.YtceinjokenbhjaaGreatDoorHandL
namespace Go.Proofs.YtceinjokenbhjaaGreatDoor
open Go.Abs Go.Proofs
set_option maxRecDepth 100000
theorem szCell_callable : callable Tryz.prog 12 = true := by kernel_rfl
theorem szCell_den (a : GCell) (b : Int) : denF { tt := tt, fs := [] } [] Tryz.f12 szCellFS.ps szCellFS.rs szCellFS.ex (a, b) = szCell a b := by kernel_rfl
theorem szCell_sound : Sound Tryz.prog szCellFS :=
  sound_of_den (E := { tt := tt, fs := [] }) (.nil tt_ok) mixed_ok [] (fn := Tryz.f12) (by kernel_rfl) fun x => szCell_den x.1 x.2
theorem szEdit_callable : callable Tryz.prog 4 = true := by kernel_rfl
theorem szEdit_den (a : GEdit) (b : Int) : denF { tt := tt, fs := [szCellFS] } [] Tryz.f4 szEditFS.ps szEditFS.rs szEditFS.ex (a, b) = szEdit a b := by kernel_rfl
theorem szEdit_sound : Sound Tryz.prog szEditFS :=
  sound_of_den (E := { tt := tt, fs := [szCellFS] }) (.cons szCell_callable szCell_sound (.nil tt_ok)) mixed_ok [] (fn := Tryz.f4) (by kernel_rfl) fun x => szEdit_den x.1 x.2
theorem szIntS_callable : callable Tryz.prog 20 = true := by kernel_rfl
theorem szIntS_den (a : List Int) (b : Int) : denF { tt := tt, fs := [] } [] Tryz.f20 szIntSFS.ps szIntSFS.rs szIntSFS.ex (a, b) = szIntS a b := by kernel_rfl
theorem szIntS_sound : Sound Tryz.prog szIntSFS :=
  sound_of_den (E := { tt := tt, fs := [] }) (.nil tt_ok) mixed_ok [] (fn := Tryz.f20) (by kernel_rfl) fun x => szIntS_den x.1 x.2
theorem szStringS_callable : callable Tryz.prog 100 = true := by kernel_rfl
theorem szStringS_den (a : List Str) (b : Int) : denF { tt := tt, fs := [] } [(5, { n := 28, its := [.t 0 (.ro (.list (.base .str))), .t 1 (.ro (.base .int)), .t 5 (.ro (.base .int))], boxes := [], ptrs := [] })] Tryz.f100 szStringSFS.ps szStringSFS.rs szStringSFS.ex (a, b) = szStringS a b := by kernel_rfl
theorem szStringS_sound : Sound Tryz.prog szStringSFS :=
  sound_of_den (E := { tt := tt, fs := [] }) (.nil tt_ok) mixed_ok [(5, { n := 28, its := [.t 0 (.ro (.list (.base .str))), .t 1 (.ro (.base .int)), .t 5 (.ro (.base .int))], boxes := [], ptrs := [] })] (fn := Tryz.f100) (by kernel_rfl) fun x => szStringS_den x.1 x.2
theorem szOriginS_callable : callable Tryz.prog 149 = true := by kernel_rfl
theorem szOriginS_den (a : List GOrigin) (b : Int) : denF { tt := tt, fs := [] } [] Tryz.f149 szOriginSFS.ps szOriginSFS.rs szOriginSFS.ex (a, b) = szOriginS a b := by kernel_rfl
theorem szOriginS_sound : Sound Tryz.prog szOriginSFS :=
  sound_of_den (E := { tt := tt, fs := [] }) (.nil tt_ok) mixed_ok [] (fn := Tryz.f149) (by kernel_rfl) fun x => szOriginS_den x.1 x.2
theorem szRow_callable : callable Tryz.prog 135 = true := by kernel_rfl
theorem szRow_den (a : GRow) (b : Int) : denF { tt := tt, fs := [szIntSFS, szOriginSFS] } [] Tryz.f135 szRowFS.ps szRowFS.rs szRowFS.ex (a, b) = szRow a b := by kernel_rfl
theorem szRow_sound : Sound Tryz.prog szRowFS :=
  sound_of_den (E := { tt := tt, fs := [szIntSFS, szOriginSFS] }) (.cons szIntS_callable szIntS_sound (.cons szOriginS_callable szOriginS_sound (.nil tt_ok))) mixed_ok [] (fn := Tryz.f135) (by kernel_rfl) fun x => szRow_den x.1 x.2
theorem szRowS_callable : callable Tryz.prog 101 = true := by kernel_rfl
theorem szRowS_den (a : List GRow) (b : Int) : denF { tt := tt, fs := [szRowFS] } [(5, { n := 27, its := [.t 0 (.ro (.list (.base .row))), .t 1 (.ro (.base .int)), .t 5 (.ro (.base .int))], boxes := [], ptrs := [] })] Tryz.f101 szRowSFS.ps szRowSFS.rs szRowSFS.ex (a, b) = szRowS a b := by kernel_rfl
theorem szRowS_sound : Sound Tryz.prog szRowSFS :=
  sound_of_den (E := { tt := tt, fs := [szRowFS] }) (.cons szRow_callable szRow_sound (.nil tt_ok)) mixed_ok [(5, { n := 27, its := [.t 0 (.ro (.list (.base .row))), .t 1 (.ro (.base .int)), .t 5 (.ro (.base .int))], boxes := [], ptrs := [] })] (fn := Tryz.f101) (by kernel_rfl) fun x => szRowS_den x.1 x.2
theorem szValue_callable : callable Tryz.prog 59 = true := by kernel_rfl
theorem szValueS_callable : callable Tryz.prog 99 = true := by kernel_rfl
theorem szValue_den (rszValue : GVal → Int → Option (Int)) (rszValueS : (List GVal) → Int → Option (Int)) (a : GVal) (b : Int) : denF { tt := tt, fs := [szStringSFS, szRowSFS, { fid := 59, ps := [⟨true, .base .val⟩, ⟨false, .base .int⟩], rs := [⟨false, .base .int⟩], ex := true, fn := fun x => rszValue x.1 x.2 }, { fid := 99, ps := [⟨false, .list (.base .val)⟩, ⟨false, .base .int⟩], rs := [⟨false, .base .int⟩], ex := true, fn := fun x => rszValueS x.1 x.2 }] } [] Tryz.f59 szValueFS.ps szValueFS.rs szValueFS.ex (a, b) = szValueB rszValue rszValueS a b := by kernel_rfl
theorem szValueS_den (rszValue : GVal → Int → Option (Int)) (rszValueS : (List GVal) → Int → Option (Int)) (a : List GVal) (b : Int) : denF { tt := tt, fs := [szStringSFS, szRowSFS, { fid := 59, ps := [⟨true, .base .val⟩, ⟨false, .base .int⟩], rs := [⟨false, .base .int⟩], ex := true, fn := fun x => rszValue x.1 x.2 }, { fid := 99, ps := [⟨false, .list (.base .val)⟩, ⟨false, .base .int⟩], rs := [⟨false, .base .int⟩], ex := true, fn := fun x => rszValueS x.1 x.2 }] } [(5, { n := 27, its := [.t 0 (.ro (.list (.base .val))), .t 1 (.ro (.base .int)), .t 5 (.ro (.base .int))], boxes := [], ptrs := [] })] Tryz.f99 szValueSFS.ps szValueSFS.rs szValueSFS.ex (a, b) = szValueSB rszValue rszValueS a b := by kernel_rfl
theorem szValueG_sound : ∀ n, Sound Tryz.prog (szValueFSN n) ∧ Sound Tryz.prog (szValueSFSN n)
  | 0 => ⟨(fun w S args x y h => by cases h), (fun w S args x y h => by cases h)⟩
  | n + 1 => by
    have ih := szValueG_sound n
    exact ⟨sound_of_den (s := szValueFSN (n + 1)) (E := { tt := tt, fs := [szStringSFS, szRowSFS, szValueFSN n, szValueSFSN n] }) (.cons szStringS_callable szStringS_sound (.cons szRowS_callable szRowS_sound (.cons szValue_callable ih.1 (.cons szValueS_callable ih.2 (.nil tt_ok))))) mixed_ok [] (fn := Tryz.f59) (by kernel_rfl) fun x => szValue_den _ _ x.1 x.2, sound_of_den (s := szValueSFSN (n + 1)) (E := { tt := tt, fs := [szStringSFS, szRowSFS, szValueFSN n, szValueSFSN n] }) (.cons szStringS_callable szStringS_sound (.cons szRowS_callable szRowS_sound (.cons szValue_callable ih.1 (.cons szValueS_callable ih.2 (.nil tt_ok))))) mixed_ok [(5, { n := 27, its := [.t 0 (.ro (.list (.base .val))), .t 1 (.ro (.base .int)), .t 5 (.ro (.base .int))], boxes := [], ptrs := [] })] (fn := Tryz.f99) (by kernel_rfl) fun x => szValueS_den _ _ x.1 x.2⟩
theorem szValue_sound : Sound Tryz.prog szValueFS := fun w S args x y h => (szValueG_sound (siz (α := GVal) x.1 + 1)).1 w S args x y h
theorem szRead_callable : callable Tryz.prog 36 = true := by kernel_rfl
theorem szRead_den (a : GRead) (b : Int) : denF { tt := tt, fs := [szValueFS] } [] Tryz.f36 szReadFS.ps szReadFS.rs szReadFS.ex (a, b) = szRead a b := by kernel_rfl
theorem szRead_sound : Sound Tryz.prog szReadFS :=
  sound_of_den (E := { tt := tt, fs := [szValueFS] }) (.cons szValue_callable szValue_sound (.nil tt_ok)) mixed_ok [] (fn := Tryz.f36) (by kernel_rfl) fun x => szRead_den x.1 x.2
theorem szReadS_callable : callable Tryz.prog 21 = true := by kernel_rfl
theorem szReadS_den (a : List GRead) (b : Int) : denF { tt := tt, fs := [szReadFS] } [(5, { n := 27, its := [.t 0 (.ro (.list (.base .read))), .t 1 (.ro (.base .int)), .t 5 (.ro (.base .int))], boxes := [], ptrs := [] })] Tryz.f21 szReadSFS.ps szReadSFS.rs szReadSFS.ex (a, b) = szReadS a b := by kernel_rfl
theorem szReadS_sound : Sound Tryz.prog szReadSFS :=
  sound_of_den (E := { tt := tt, fs := [szReadFS] }) (.cons szRead_callable szRead_sound (.nil tt_ok)) mixed_ok [(5, { n := 27, its := [.t 0 (.ro (.list (.base .read))), .t 1 (.ro (.base .int)), .t 5 (.ro (.base .int))], boxes := [], ptrs := [] })] (fn := Tryz.f21) (by kernel_rfl) fun x => szReadS_den x.1 x.2
theorem szOp_callable : callable Tryz.prog 13 = true := by kernel_rfl
theorem szOp_den (a : GOp) (b : Int) : denF { tt := tt, fs := [szEditFS, szIntSFS, szReadSFS] } [] Tryz.f13 szOpFS.ps szOpFS.rs szOpFS.ex (a, b) = szOp a b := by kernel_rfl
theorem szOp_sound : Sound Tryz.prog szOpFS :=
  sound_of_den (E := { tt := tt, fs := [szEditFS, szIntSFS, szReadSFS] }) (.cons szEdit_callable szEdit_sound (.cons szIntS_callable szIntS_sound (.cons szReadS_callable szReadS_sound (.nil tt_ok)))) mixed_ok [] (fn := Tryz.f13) (by kernel_rfl) fun x => szOp_den x.1 x.2
theorem szOpS_callable : callable Tryz.prog 5 = true := by kernel_rfl
theorem szOpS_den (a : List GOp) (b : Int) : denF { tt := tt, fs := [szOpFS] } [(5, { n := 27, its := [.t 0 (.ro (.list (.base .op))), .t 1 (.ro (.base .int)), .t 5 (.ro (.base .int))], boxes := [], ptrs := [] })] Tryz.f5 szOpSFS.ps szOpSFS.rs szOpSFS.ex (a, b) = szOpS a b := by kernel_rfl
theorem szOpS_sound : Sound Tryz.prog szOpSFS :=
  sound_of_den (E := { tt := tt, fs := [szOpFS] }) (.cons szOp_callable szOp_sound (.nil tt_ok)) mixed_ok [(5, { n := 27, its := [.t 0 (.ro (.list (.base .op))), .t 1 (.ro (.base .int)), .t 5 (.ro (.base .int))], boxes := [], ptrs := [] })] (fn := Tryz.f5) (by kernel_rfl) fun x => szOpS_den x.1 x.2
theorem sL9Letter_callable : callable Tryz.prog 102 = true := by kernel_rfl
theorem sL9Letter_den (a : Int) : denF { tt := tt, fs := [] } [] Tryz.f102 sL9LetterFS.ps sL9LetterFS.rs sL9LetterFS.ex a = sL9Letter a := by kernel_rfl
theorem sL9Letter_sound : Sound Tryz.prog sL9LetterFS :=
  sound_of_den (E := { tt := tt, fs := [] }) (.nil tt_ok) mixed_ok [] (fn := Tryz.f102) (by kernel_rfl) fun x => sL9Letter_den x
theorem sL9Digit_callable : callable Tryz.prog 103 = true := by kernel_rfl
theorem sL9Digit_den (a : Int) : denF { tt := tt, fs := [] } [] Tryz.f103 sL9DigitFS.ps sL9DigitFS.rs sL9DigitFS.ex a = sL9Digit a := by kernel_rfl
theorem sL9Digit_sound : Sound Tryz.prog sL9DigitFS :=
  sound_of_den (E := { tt := tt, fs := [] }) (.nil tt_ok) mixed_ok [] (fn := Tryz.f103) (by kernel_rfl) fun x => sL9Digit_den x
theorem sFormatInt_callable : callable Tryz.prog 72 = true := by kernel_rfl
theorem sFormatInt_den (a : Int) : denF { tt := tt, fs := [] } [(5, { n := 31, its := [.t 0 (.ro (.base .int)), .t 3 (.ro (.base .bool)), .t 4 (.ro (.base .str))], boxes := [], ptrs := [] })] Tryz.f72 sFormatIntFS.ps sFormatIntFS.rs sFormatIntFS.ex a = sFormatInt a := by kernel_rfl
theorem sFormatInt_sound : Sound Tryz.prog sFormatIntFS :=
  sound_of_den (E := { tt := tt, fs := [] }) (.nil tt_ok) mixed_ok [(5, { n := 31, its := [.t 0 (.ro (.base .int)), .t 3 (.ro (.base .bool)), .t 4 (.ro (.base .str))], boxes := [], ptrs := [] })] (fn := Tryz.f72) (by kernel_rfl) fun x => sFormatInt_den x
theorem sL1Read_callable : callable Tryz.prog 136 = true := by kernel_rfl
theorem sL1Read_den (a : Str) (b : Int) : denF { tt := tt, fs := [sFormatIntFS] } [(9, { n := 63, its := [.t 0 (.ro (.base .str)), .t 6 (.ro (.base .bool)), .t 7 (.ro (.base .str)), .t 8 (.ro (.base .int)), .t 9 (.ro (.base .int))], boxes := [], ptrs := [] })] Tryz.f136 sL1ReadFS.ps sL1ReadFS.rs sL1ReadFS.ex (a, b) = sL1Read a b := by kernel_rfl
theorem sL1Read_sound : Sound Tryz.prog sL1ReadFS :=
  sound_of_den (E := { tt := tt, fs := [sFormatIntFS] }) (.cons sFormatInt_callable sFormatInt_sound (.nil tt_ok)) mixed_ok [(9, { n := 63, its := [.t 0 (.ro (.base .str)), .t 6 (.ro (.base .bool)), .t 7 (.ro (.base .str)), .t 8 (.ro (.base .int)), .t 9 (.ro (.base .int))], boxes := [], ptrs := [] })] (fn := Tryz.f136) (by kernel_rfl) fun x => sL1Read_den x.1 x.2
theorem sParseInt_callable : callable Tryz.prog 104 = true := by kernel_rfl
theorem sParseInt_den (a : Str) : denF { tt := tt, fs := [sL1ReadFS] } [] Tryz.f104 sParseIntFS.ps sParseIntFS.rs sParseIntFS.ex a = sParseInt a := by kernel_rfl
theorem sParseInt_sound : Sound Tryz.prog sParseIntFS :=
  sound_of_den (E := { tt := tt, fs := [sL1ReadFS] }) (.cons sL1Read_callable sL1Read_sound (.nil tt_ok)) mixed_ok [] (fn := Tryz.f104) (by kernel_rfl) fun x => sParseInt_den x
theorem sIsValidText_callable : callable Tryz.prog 105 = true := by kernel_rfl
theorem sIsValidText_den (a : Str) : denF { tt := tt, fs := [] } [(2, { n := 29, its := [.t 0 (.ro (.base .str)), .t 3 (.ro (.base .int))], boxes := [], ptrs := [] })] Tryz.f105 sIsValidTextFS.ps sIsValidTextFS.rs sIsValidTextFS.ex a = sIsValidText a := by kernel_rfl
theorem sIsValidText_sound : Sound Tryz.prog sIsValidTextFS :=
  sound_of_den (E := { tt := tt, fs := [] }) (.nil tt_ok) mixed_ok [(2, { n := 29, its := [.t 0 (.ro (.base .str)), .t 3 (.ro (.base .int))], boxes := [], ptrs := [] })] (fn := Tryz.f105) (by kernel_rfl) fun x => sIsValidText_den x
theorem sL9Symbol_callable : callable Tryz.prog 106 = true := by kernel_rfl
theorem sL9Symbol_den (a : Str) (b : Int) : denF { tt := tt, fs := [] } [] Tryz.f106 sL9SymbolFS.ps sL9SymbolFS.rs sL9SymbolFS.ex (a, b) = sL9Symbol a b := by kernel_rfl
theorem sL9Symbol_sound : Sound Tryz.prog sL9SymbolFS :=
  sound_of_den (E := { tt := tt, fs := [] }) (.nil tt_ok) mixed_ok [] (fn := Tryz.f106) (by kernel_rfl) fun x => sL9Symbol_den x.1 x.2
theorem sL9Next_callable : callable Tryz.prog 60 = true := by kernel_rfl
theorem sL9Next_den (a : Str) (b : Int) : denF { tt := tt, fs := [sL9LetterFS, sL9DigitFS, sParseIntFS, sIsValidTextFS, sL9SymbolFS] } [(7, { n := 136, its := [.t 0 (.ro (.base .str)), .t 1 (.ro (.base .int)), .b 4 0 (.ro (.base .int)), .b 4 1 (.ro (.base .int)), .b 4 2 (.ro (.base .int)), .b 4 3 (.ro (.base .str)), .b 6 0 (.ro (.base .int)), .b 6 1 (.ro (.base .int)), .b 6 2 (.ro (.base .int)), .b 6 3 (.ro (.base .str)), .t 7 (.ro (.base .int))], boxes := [(4, 4), (6, 4)], ptrs := [(4, 4, 0), (6, 6, 0)] }), (14, { n := 136, its := [.t 0 (.ro (.base .str)), .t 1 (.ro (.base .int)), .b 4 0 (.ro (.base .int)), .b 4 1 (.ro (.base .int)), .b 4 2 (.ro (.base .int)), .b 4 3 (.ro (.base .str)), .b 6 0 (.ro (.base .int)), .b 6 1 (.ro (.base .int)), .b 6 2 (.ro (.base .int)), .b 6 3 (.ro (.base .str)), .t 7 (.ro (.base .int))], boxes := [(4, 4), (6, 4)], ptrs := [(4, 4, 0), (6, 6, 0)] }), (23, { n := 136, its := [.t 0 (.ro (.base .str)), .t 1 (.ro (.base .int)), .b 4 0 (.ro (.base .int)), .b 4 1 (.ro (.base .int)), .b 4 2 (.ro (.base .int)), .b 4 3 (.ro (.base .str)), .b 6 0 (.ro (.base .int)), .b 6 1 (.ro (.base .int)), .b 6 2 (.ro (.base .int)), .b 6 3 (.ro (.base .str)), .t 7 (.ro (.base .int))], boxes := [(4, 4), (6, 4)], ptrs := [(4, 4, 0), (6, 6, 0)] })] Tryz.f60 sL9NextFS.ps sL9NextFS.rs sL9NextFS.ex (a, b) = sL9Next a b := by kernel_rfl
theorem sL9Next_sound : Sound Tryz.prog sL9NextFS :=
  sound_of_den (E := { tt := tt, fs := [sL9LetterFS, sL9DigitFS, sParseIntFS, sIsValidTextFS, sL9SymbolFS] }) (.cons sL9Letter_callable sL9Letter_sound (.cons sL9Digit_callable sL9Digit_sound (.cons sParseInt_callable sParseInt_sound (.cons sIsValidText_callable sIsValidText_sound (.cons sL9Symbol_callable sL9Symbol_sound (.nil tt_ok)))))) mixed_ok [(7, { n := 136, its := [.t 0 (.ro (.base .str)), .t 1 (.ro (.base .int)), .b 4 0 (.ro (.base .int)), .b 4 1 (.ro (.base .int)), .b 4 2 (.ro (.base .int)), .b 4 3 (.ro (.base .str)), .b 6 0 (.ro (.base .int)), .b 6 1 (.ro (.base .int)), .b 6 2 (.ro (.base .int)), .b 6 3 (.ro (.base .str)), .t 7 (.ro (.base .int))], boxes := [(4, 4), (6, 4)], ptrs := [(4, 4, 0), (6, 6, 0)] }), (14, { n := 136, its := [.t 0 (.ro (.base .str)), .t 1 (.ro (.base .int)), .b 4 0 (.ro (.base .int)), .b 4 1 (.ro (.base .int)), .b 4 2 (.ro (.base .int)), .b 4 3 (.ro (.base .str)), .b 6 0 (.ro (.base .int)), .b 6 1 (.ro (.base .int)), .b 6 2 (.ro (.base .int)), .b 6 3 (.ro (.base .str)), .t 7 (.ro (.base .int))], boxes := [(4, 4), (6, 4)], ptrs := [(4, 4, 0), (6, 6, 0)] }), (23, { n := 136, its := [.t 0 (.ro (.base .str)), .t 1 (.ro (.base .int)), .b 4 0 (.ro (.base .int)), .b 4 1 (.ro (.base .int)), .b 4 2 (.ro (.base .int)), .b 4 3 (.ro (.base .str)), .b 6 0 (.ro (.base .int)), .b 6 1 (.ro (.base .int)), .b 6 2 (.ro (.base .int)), .b 6 3 (.ro (.base .str)), .t 7 (.ro (.base .int))], boxes := [(4, 4), (6, 4)], ptrs := [(4, 4, 0), (6, 6, 0)] })] (fn := Tryz.f60) (by kernel_rfl) fun x => sL9Next_den x.1 x.2
theorem sTokenize_callable : callable Tryz.prog 37 = true := by kernel_rfl
theorem sTokenize_den (a : Str) : denF { tt := tt, fs := [sL9NextFS] } [(5, { n := 46, its := [.t 0 (.ro (.base .str)), .t 4 (.own (.base .token) true true 0), .t 5 (.ro (.base .int))], boxes := [], ptrs := [] })] Tryz.f37 sTokenizeFS.ps sTokenizeFS.rs sTokenizeFS.ex a = sTokenize a := by kernel_rfl
theorem sTokenize_sound : Sound Tryz.prog sTokenizeFS :=
  sound_of_den (E := { tt := tt, fs := [sL9NextFS] }) (.cons sL9Next_callable sL9Next_sound (.nil tt_ok)) mixed_ok [(5, { n := 46, its := [.t 0 (.ro (.base .str)), .t 4 (.own (.base .token) true true 0), .t 5 (.ro (.base .int))], boxes := [], ptrs := [] })] (fn := Tryz.f37) (by kernel_rfl) fun x => sTokenize_den x
theorem sIsSymbol_callable : callable Tryz.prog 107 = true := by kernel_rfl
theorem sIsSymbol_den (a : GToken) (b : Str) : denF { tt := tt, fs := [] } [] Tryz.f107 sIsSymbolFS.ps sIsSymbolFS.rs sIsSymbolFS.ex (a, b) = sIsSymbol a b := by kernel_rfl
theorem sIsSymbol_sound : Sound Tryz.prog sIsSymbolFS :=
  sound_of_den (E := { tt := tt, fs := [] }) (.nil tt_ok) mixed_ok [] (fn := Tryz.f107) (by kernel_rfl) fun x => sIsSymbol_den x.1 x.2
theorem sIsKeyword_callable : callable Tryz.prog 108 = true := by kernel_rfl
theorem sIsKeyword_den (a : GToken) (b : Str) : denF { tt := tt, fs := [] } [] Tryz.f108 sIsKeywordFS.ps sIsKeywordFS.rs sIsKeywordFS.ex (a, b) = sIsKeyword a b := by kernel_rfl
theorem sIsKeyword_sound : Sound Tryz.prog sIsKeywordFS :=
  sound_of_den (E := { tt := tt, fs := [] }) (.nil tt_ok) mixed_ok [] (fn := Tryz.f108) (by kernel_rfl) fun x => sIsKeyword_den x.1 x.2
theorem sL11Sees_callable : callable Tryz.prog 61 = true := by kernel_rfl
theorem sL11Sees_den (a : GRd) (b : Str) : denB { tt := tt, fs := [sIsSymbolFS, sIsKeywordFS] } [] Tryz.f61 sL11SeesFS.ps sL11SeesFS.rs sL11SeesFS.sh (a, b) = sL11Sees a b := by kernel_rfl
theorem sL11Sees_sound : BSound Tryz.prog sL11SeesFS :=
  bsound_of_den (E := { tt := tt, fs := [sIsSymbolFS, sIsKeywordFS] }) (.cons sIsSymbol_callable sIsSymbol_sound (.cons sIsKeyword_callable sIsKeyword_sound (.nil tt_ok))) mixed_ok [] (fn := Tryz.f61) (by kernel_rfl) fun x => sL11Sees_den x.1 x.2
theorem sL11Fail_callable : callable Tryz.prog 39 = true := by kernel_rfl
theorem sL11Fail_den (a : GRd) : denB { tt := tt, fs := [] } [] Tryz.f39 sL11FailFS.ps sL11FailFS.rs sL11FailFS.sh a = sL11Fail a := by kernel_rfl
theorem sL11Fail_sound : BSound Tryz.prog sL11FailFS :=
  bsound_of_den (E := { tt := tt, fs := [] }) (.nil tt_ok) mixed_ok [] (fn := Tryz.f39) (by kernel_rfl) fun x => sL11Fail_den x
theorem sL2Shape_callable : callable Tryz.prog 68 = true := by kernel_rfl
theorem sL2Shape_den (a : Str) : denF { tt := tt, fs := [] } [(2, { n := 45, its := [.t 0 (.ro (.base .str)), .t 3 (.ro (.base .int))], boxes := [], ptrs := [] })] Tryz.f68 sL2ShapeFS.ps sL2ShapeFS.rs sL2ShapeFS.ex a = sL2Shape a := by kernel_rfl
theorem sL2Shape_sound : Sound Tryz.prog sL2ShapeFS :=
  sound_of_den (E := { tt := tt, fs := [] }) (.nil tt_ok) mixed_ok [(2, { n := 45, its := [.t 0 (.ro (.base .str)), .t 3 (.ro (.base .int))], boxes := [], ptrs := [] })] (fn := Tryz.f68) (by kernel_rfl) fun x => sL2Shape_den x
theorem sL1Has_callable : callable Tryz.prog 23 = true := by kernel_rfl
theorem sL1Has_den (a : List Str) (b : Str) : denF { tt := tt, fs := [] } [(2, { n := 18, its := [.t 0 (.ro (.list (.base .str))), .t 1 (.ro (.base .str)), .t 5 (.ro (.base .int))], boxes := [], ptrs := [] })] Tryz.f23 sL1HasFS.ps sL1HasFS.rs sL1HasFS.ex (a, b) = sL1Has a b := by kernel_rfl
theorem sL1Has_sound : Sound Tryz.prog sL1HasFS :=
  sound_of_den (E := { tt := tt, fs := [] }) (.nil tt_ok) mixed_ok [(2, { n := 18, its := [.t 0 (.ro (.list (.base .str))), .t 1 (.ro (.base .str)), .t 5 (.ro (.base .int))], boxes := [], ptrs := [] })] (fn := Tryz.f23) (by kernel_rfl) fun x => sL1Has_den x.1 x.2
theorem sL2Reserved_callable : callable Tryz.prog 113 = true := by kernel_rfl
theorem sL2Reserved_den : denF { tt := tt, fs := [] } [] Tryz.f113 sL2ReservedFS.ps sL2ReservedFS.rs sL2ReservedFS.ex () = sL2Reserved := by kernel_rfl
theorem sL2Reserved_sound : Sound Tryz.prog sL2ReservedFS :=
  sound_of_den (E := { tt := tt, fs := [] }) (.nil tt_ok) mixed_ok [] (fn := Tryz.f113) (by kernel_rfl) fun x => sL2Reserved_den 
theorem sIsReserved_callable : callable Tryz.prog 69 = true := by kernel_rfl
theorem sIsReserved_den (a : Str) : denF { tt := tt, fs := [sL1HasFS, sL2ReservedFS] } [] Tryz.f69 sIsReservedFS.ps sIsReservedFS.rs sIsReservedFS.ex a = sIsReserved a := by kernel_rfl
theorem sIsReserved_sound : Sound Tryz.prog sIsReservedFS :=
  sound_of_den (E := { tt := tt, fs := [sL1HasFS, sL2ReservedFS] }) (.cons sL1Has_callable sL1Has_sound (.cons sL2Reserved_callable sL2Reserved_sound (.nil tt_ok))) mixed_ok [] (fn := Tryz.f69) (by kernel_rfl) fun x => sIsReserved_den x
end Go.Proofs.YtceinjokenbhjaaGreatDoor
