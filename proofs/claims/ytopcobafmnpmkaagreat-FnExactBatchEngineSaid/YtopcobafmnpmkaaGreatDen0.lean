/- The functions compute their models, by gen.py. -/
import Derived.Test.YtopcobafmnpmkaaGreatEnvs
namespace Go.Proofs.YtopcobafmnpmkaaGreat
open Go.Abs Go.Proofs
set_option maxRecDepth 100000
theorem szCell_callable : callable Tryz.prog 77 = true := by kernel_rfl
theorem szCell_den (a : GCell) (b : Int) : denF { tt := tt, fs := [] } [] Tryz.f77 szCellFS.ps szCellFS.rs szCellFS.ex (a, b) = szCell a b := by kernel_rfl
theorem szCell_sound : Sound Tryz.prog szCellFS :=
  sound_of_den (E := { tt := tt, fs := [] }) (.nil tt_ok) mixed_ok [] (fn := Tryz.f77) (by kernel_rfl) fun x => szCell_den x.1 x.2
theorem szCellS_callable : callable Tryz.prog 73 = true := by kernel_rfl
theorem szCellS_den (a : List GCell) (b : Int) : denF { tt := tt, fs := [szCellFS] } [(5, { n := 27, its := [.t 0 (.ro (.list (.base .cell))), .t 1 (.ro (.base .int)), .t 5 (.ro (.base .int))], boxes := [], ptrs := [] })] Tryz.f73 szCellSFS.ps szCellSFS.rs szCellSFS.ex (a, b) = szCellS a b := by kernel_rfl
theorem szCellS_sound : Sound Tryz.prog szCellSFS :=
  sound_of_den (E := { tt := tt, fs := [szCellFS] }) (.cons szCell_callable szCell_sound (.nil tt_ok)) mixed_ok [(5, { n := 27, its := [.t 0 (.ro (.list (.base .cell))), .t 1 (.ro (.base .int)), .t 5 (.ro (.base .int))], boxes := [], ptrs := [] })] (fn := Tryz.f73) (by kernel_rfl) fun x => szCellS_den x.1 x.2
theorem szNotebook_callable : callable Tryz.prog 26 = true := by kernel_rfl
theorem szNotebook_den (a : GNotebook) (b : Int) : denF { tt := tt, fs := [szCellSFS] } [] Tryz.f26 szNotebookFS.ps szNotebookFS.rs szNotebookFS.ex (a, b) = szNotebook a b := by kernel_rfl
theorem szNotebook_sound : Sound Tryz.prog szNotebookFS :=
  sound_of_den (E := { tt := tt, fs := [szCellSFS] }) (.cons szCellS_callable szCellS_sound (.nil tt_ok)) mixed_ok [] (fn := Tryz.f26) (by kernel_rfl) fun x => szNotebook_den x.1 x.2
theorem szFile_callable : callable Tryz.prog 129 = true := by kernel_rfl
theorem szFile_den (a : GFile) (b : Int) : denF { tt := tt, fs := [] } [] Tryz.f129 szFileFS.ps szFileFS.rs szFileFS.ex (a, b) = szFile a b := by kernel_rfl
theorem szFile_sound : Sound Tryz.prog szFileFS :=
  sound_of_den (E := { tt := tt, fs := [] }) (.nil tt_ok) mixed_ok [] (fn := Tryz.f129) (by kernel_rfl) fun x => szFile_den x.1 x.2
theorem szFileS_callable : callable Tryz.prog 74 = true := by kernel_rfl
theorem szFileS_den (a : List GFile) (b : Int) : denF { tt := tt, fs := [szFileFS] } [(5, { n := 27, its := [.t 0 (.ro (.list (.base .file))), .t 1 (.ro (.base .int)), .t 5 (.ro (.base .int))], boxes := [], ptrs := [] })] Tryz.f74 szFileSFS.ps szFileSFS.rs szFileSFS.ex (a, b) = szFileS a b := by kernel_rfl
theorem szFileS_sound : Sound Tryz.prog szFileSFS :=
  sound_of_den (E := { tt := tt, fs := [szFileFS] }) (.cons szFile_callable szFile_sound (.nil tt_ok)) mixed_ok [(5, { n := 27, its := [.t 0 (.ro (.list (.base .file))), .t 1 (.ro (.base .int)), .t 5 (.ro (.base .int))], boxes := [], ptrs := [] })] (fn := Tryz.f74) (by kernel_rfl) fun x => szFileS_den x.1 x.2
theorem szWorld_callable : callable Tryz.prog 27 = true := by kernel_rfl
theorem szWorld_den (a : GWorld) (b : Int) : denF { tt := tt, fs := [szFileSFS] } [] Tryz.f27 szWorldFS.ps szWorldFS.rs szWorldFS.ex (a, b) = szWorld a b := by kernel_rfl
theorem szWorld_sound : Sound Tryz.prog szWorldFS :=
  sound_of_den (E := { tt := tt, fs := [szFileSFS] }) (.cons szFileS_callable szFileS_sound (.nil tt_ok)) mixed_ok [] (fn := Tryz.f27) (by kernel_rfl) fun x => szWorld_den x.1 x.2
theorem szStringS_callable : callable Tryz.prog 170 = true := by kernel_rfl
theorem szStringS_den (a : List Str) (b : Int) : denF { tt := tt, fs := [] } [(5, { n := 28, its := [.t 0 (.ro (.list (.base .str))), .t 1 (.ro (.base .int)), .t 5 (.ro (.base .int))], boxes := [], ptrs := [] })] Tryz.f170 szStringSFS.ps szStringSFS.rs szStringSFS.ex (a, b) = szStringS a b := by kernel_rfl
theorem szStringS_sound : Sound Tryz.prog szStringSFS :=
  sound_of_den (E := { tt := tt, fs := [] }) (.nil tt_ok) mixed_ok [(5, { n := 28, its := [.t 0 (.ro (.list (.base .str))), .t 1 (.ro (.base .int)), .t 5 (.ro (.base .int))], boxes := [], ptrs := [] })] (fn := Tryz.f170) (by kernel_rfl) fun x => szStringS_den x.1 x.2
theorem szIntS_callable : callable Tryz.prog 131 = true := by kernel_rfl
theorem szIntS_den (a : List Int) (b : Int) : denF { tt := tt, fs := [] } [] Tryz.f131 szIntSFS.ps szIntSFS.rs szIntSFS.ex (a, b) = szIntS a b := by kernel_rfl
theorem szIntS_sound : Sound Tryz.prog szIntSFS :=
  sound_of_den (E := { tt := tt, fs := [] }) (.nil tt_ok) mixed_ok [] (fn := Tryz.f131) (by kernel_rfl) fun x => szIntS_den x.1 x.2
theorem szOriginS_callable : callable Tryz.prog 206 = true := by kernel_rfl
theorem szOriginS_den (a : List GOrigin) (b : Int) : denF { tt := tt, fs := [] } [] Tryz.f206 szOriginSFS.ps szOriginSFS.rs szOriginSFS.ex (a, b) = szOriginS a b := by kernel_rfl
theorem szOriginS_sound : Sound Tryz.prog szOriginSFS :=
  sound_of_den (E := { tt := tt, fs := [] }) (.nil tt_ok) mixed_ok [] (fn := Tryz.f206) (by kernel_rfl) fun x => szOriginS_den x.1 x.2
theorem szRow_callable : callable Tryz.prog 195 = true := by kernel_rfl
theorem szRow_den (a : GRow) (b : Int) : denF { tt := tt, fs := [szIntSFS, szOriginSFS] } [] Tryz.f195 szRowFS.ps szRowFS.rs szRowFS.ex (a, b) = szRow a b := by kernel_rfl
theorem szRow_sound : Sound Tryz.prog szRowFS :=
  sound_of_den (E := { tt := tt, fs := [szIntSFS, szOriginSFS] }) (.cons szIntS_callable szIntS_sound (.cons szOriginS_callable szOriginS_sound (.nil tt_ok))) mixed_ok [] (fn := Tryz.f195) (by kernel_rfl) fun x => szRow_den x.1 x.2
theorem szRowS_callable : callable Tryz.prog 171 = true := by kernel_rfl
theorem szRowS_den (a : List GRow) (b : Int) : denF { tt := tt, fs := [szRowFS] } [(5, { n := 27, its := [.t 0 (.ro (.list (.base .row))), .t 1 (.ro (.base .int)), .t 5 (.ro (.base .int))], boxes := [], ptrs := [] })] Tryz.f171 szRowSFS.ps szRowSFS.rs szRowSFS.ex (a, b) = szRowS a b := by kernel_rfl
theorem szRowS_sound : Sound Tryz.prog szRowSFS :=
  sound_of_den (E := { tt := tt, fs := [szRowFS] }) (.cons szRow_callable szRow_sound (.nil tt_ok)) mixed_ok [(5, { n := 27, its := [.t 0 (.ro (.list (.base .row))), .t 1 (.ro (.base .int)), .t 5 (.ro (.base .int))], boxes := [], ptrs := [] })] (fn := Tryz.f171) (by kernel_rfl) fun x => szRowS_den x.1 x.2
theorem szValue_callable : callable Tryz.prog 132 = true := by kernel_rfl
theorem szValueS_callable : callable Tryz.prog 169 = true := by kernel_rfl
theorem szValue_den (rszValue : GVal → Int → Option (Int)) (rszValueS : (List GVal) → Int → Option (Int)) (a : GVal) (b : Int) : denF { tt := tt, fs := [szStringSFS, szRowSFS, { fid := 132, ps := [⟨true, .base .val⟩, ⟨false, .base .int⟩], rs := [⟨false, .base .int⟩], ex := true, fn := fun x => rszValue x.1 x.2 }, { fid := 169, ps := [⟨false, .list (.base .val)⟩, ⟨false, .base .int⟩], rs := [⟨false, .base .int⟩], ex := true, fn := fun x => rszValueS x.1 x.2 }] } [] Tryz.f132 szValueFS.ps szValueFS.rs szValueFS.ex (a, b) = szValueB rszValue rszValueS a b := by kernel_rfl
theorem szValueS_den (rszValue : GVal → Int → Option (Int)) (rszValueS : (List GVal) → Int → Option (Int)) (a : List GVal) (b : Int) : denF { tt := tt, fs := [szStringSFS, szRowSFS, { fid := 132, ps := [⟨true, .base .val⟩, ⟨false, .base .int⟩], rs := [⟨false, .base .int⟩], ex := true, fn := fun x => rszValue x.1 x.2 }, { fid := 169, ps := [⟨false, .list (.base .val)⟩, ⟨false, .base .int⟩], rs := [⟨false, .base .int⟩], ex := true, fn := fun x => rszValueS x.1 x.2 }] } [(5, { n := 27, its := [.t 0 (.ro (.list (.base .val))), .t 1 (.ro (.base .int)), .t 5 (.ro (.base .int))], boxes := [], ptrs := [] })] Tryz.f169 szValueSFS.ps szValueSFS.rs szValueSFS.ex (a, b) = szValueSB rszValue rszValueS a b := by kernel_rfl
theorem szValueG_sound : ∀ n, Sound Tryz.prog (szValueFSN n) ∧ Sound Tryz.prog (szValueSFSN n)
  | 0 => ⟨(fun w S args x y h => by cases h), (fun w S args x y h => by cases h)⟩
  | n + 1 => by
    have ih := szValueG_sound n
    exact ⟨sound_of_den (s := szValueFSN (n + 1)) (E := { tt := tt, fs := [szStringSFS, szRowSFS, szValueFSN n, szValueSFSN n] }) (.cons szStringS_callable szStringS_sound (.cons szRowS_callable szRowS_sound (.cons szValue_callable ih.1 (.cons szValueS_callable ih.2 (.nil tt_ok))))) mixed_ok [] (fn := Tryz.f132) (by kernel_rfl) fun x => szValue_den _ _ x.1 x.2, sound_of_den (s := szValueSFSN (n + 1)) (E := { tt := tt, fs := [szStringSFS, szRowSFS, szValueFSN n, szValueSFSN n] }) (.cons szStringS_callable szStringS_sound (.cons szRowS_callable szRowS_sound (.cons szValue_callable ih.1 (.cons szValueS_callable ih.2 (.nil tt_ok))))) mixed_ok [(5, { n := 27, its := [.t 0 (.ro (.list (.base .val))), .t 1 (.ro (.base .int)), .t 5 (.ro (.base .int))], boxes := [], ptrs := [] })] (fn := Tryz.f169) (by kernel_rfl) fun x => szValueS_den _ _ x.1 x.2⟩
theorem szValue_sound : Sound Tryz.prog szValueFS := fun w S args x y h => (szValueG_sound (siz (α := GVal) x.1 + 1)).1 w S args x y h
theorem szValueS_sound : Sound Tryz.prog szValueSFS := fun w S args x y h => (szValueG_sound (siz (α := List GVal) x.1 + 1)).2 w S args x y h
theorem szRead_callable : callable Tryz.prog 168 = true := by kernel_rfl
theorem szRead_den (a : GRead) (b : Int) : denF { tt := tt, fs := [szValueFS] } [] Tryz.f168 szReadFS.ps szReadFS.rs szReadFS.ex (a, b) = szRead a b := by kernel_rfl
theorem szRead_sound : Sound Tryz.prog szReadFS :=
  sound_of_den (E := { tt := tt, fs := [szValueFS] }) (.cons szValue_callable szValue_sound (.nil tt_ok)) mixed_ok [] (fn := Tryz.f168) (by kernel_rfl) fun x => szRead_den x.1 x.2
theorem szReadS_callable : callable Tryz.prog 130 = true := by kernel_rfl
theorem szReadS_den (a : List GRead) (b : Int) : denF { tt := tt, fs := [szReadFS] } [(5, { n := 27, its := [.t 0 (.ro (.list (.base .read))), .t 1 (.ro (.base .int)), .t 5 (.ro (.base .int))], boxes := [], ptrs := [] })] Tryz.f130 szReadSFS.ps szReadSFS.rs szReadSFS.ex (a, b) = szReadS a b := by kernel_rfl
theorem szReadS_sound : Sound Tryz.prog szReadSFS :=
  sound_of_den (E := { tt := tt, fs := [szReadFS] }) (.cons szRead_callable szRead_sound (.nil tt_ok)) mixed_ok [(5, { n := 27, its := [.t 0 (.ro (.list (.base .read))), .t 1 (.ro (.base .int)), .t 5 (.ro (.base .int))], boxes := [], ptrs := [] })] (fn := Tryz.f130) (by kernel_rfl) fun x => szReadS_den x.1 x.2
theorem szTape_callable : callable Tryz.prog 75 = true := by kernel_rfl
theorem szTape_den (a : GTape) (b : Int) : denF { tt := tt, fs := [szReadSFS] } [] Tryz.f75 szTapeFS.ps szTapeFS.rs szTapeFS.ex (a, b) = szTape a b := by kernel_rfl
theorem szTape_sound : Sound Tryz.prog szTapeFS :=
  sound_of_den (E := { tt := tt, fs := [szReadSFS] }) (.cons szReadS_callable szReadS_sound (.nil tt_ok)) mixed_ok [] (fn := Tryz.f75) (by kernel_rfl) fun x => szTape_den x.1 x.2
theorem szTapeS_callable : callable Tryz.prog 28 = true := by kernel_rfl
theorem szTapeS_den (a : List GTape) (b : Int) : denF { tt := tt, fs := [szTapeFS] } [(5, { n := 27, its := [.t 0 (.ro (.list (.base .tape))), .t 1 (.ro (.base .int)), .t 5 (.ro (.base .int))], boxes := [], ptrs := [] })] Tryz.f28 szTapeSFS.ps szTapeSFS.rs szTapeSFS.ex (a, b) = szTapeS a b := by kernel_rfl
theorem szTapeS_sound : Sound Tryz.prog szTapeSFS :=
  sound_of_den (E := { tt := tt, fs := [szTapeFS] }) (.cons szTape_callable szTape_sound (.nil tt_ok)) mixed_ok [(5, { n := 27, its := [.t 0 (.ro (.list (.base .tape))), .t 1 (.ro (.base .int)), .t 5 (.ro (.base .int))], boxes := [], ptrs := [] })] (fn := Tryz.f28) (by kernel_rfl) fun x => szTapeS_den x.1 x.2
theorem szEntry_callable : callable Tryz.prog 76 = true := by kernel_rfl
theorem szEntry_den (a : GEntry) (b : Int) : denF { tt := tt, fs := [szIntSFS, szValueFS] } [] Tryz.f76 szEntryFS.ps szEntryFS.rs szEntryFS.ex (a, b) = szEntry a b := by kernel_rfl
theorem szEntry_sound : Sound Tryz.prog szEntryFS :=
  sound_of_den (E := { tt := tt, fs := [szIntSFS, szValueFS] }) (.cons szIntS_callable szIntS_sound (.cons szValue_callable szValue_sound (.nil tt_ok))) mixed_ok [] (fn := Tryz.f76) (by kernel_rfl) fun x => szEntry_den x.1 x.2
theorem szEntryS_callable : callable Tryz.prog 29 = true := by kernel_rfl
theorem szEntryS_den (a : List GEntry) (b : Int) : denF { tt := tt, fs := [szEntryFS] } [(5, { n := 27, its := [.t 0 (.ro (.list (.base .entry))), .t 1 (.ro (.base .int)), .t 5 (.ro (.base .int))], boxes := [], ptrs := [] })] Tryz.f29 szEntrySFS.ps szEntrySFS.rs szEntrySFS.ex (a, b) = szEntryS a b := by kernel_rfl
theorem szEntryS_sound : Sound Tryz.prog szEntrySFS :=
  sound_of_den (E := { tt := tt, fs := [szEntryFS] }) (.cons szEntry_callable szEntry_sound (.nil tt_ok)) mixed_ok [(5, { n := 27, its := [.t 0 (.ro (.list (.base .entry))), .t 1 (.ro (.base .int)), .t 5 (.ro (.base .int))], boxes := [], ptrs := [] })] (fn := Tryz.f29) (by kernel_rfl) fun x => szEntryS_den x.1 x.2
theorem szEngine_callable : callable Tryz.prog 5 = true := by kernel_rfl
theorem szEngine_den (a : GEngine) (b : Int) : denF { tt := tt, fs := [szNotebookFS, szWorldFS, szTapeSFS, szEntrySFS] } [] Tryz.f5 szEngineFS.ps szEngineFS.rs szEngineFS.ex (a, b) = szEngine a b := by kernel_rfl
theorem szEngine_sound : Sound Tryz.prog szEngineFS :=
  sound_of_den (E := { tt := tt, fs := [szNotebookFS, szWorldFS, szTapeSFS, szEntrySFS] }) (.cons szNotebook_callable szNotebook_sound (.cons szWorld_callable szWorld_sound (.cons szTapeS_callable szTapeS_sound (.cons szEntryS_callable szEntryS_sound (.nil tt_ok))))) mixed_ok [] (fn := Tryz.f5) (by kernel_rfl) fun x => szEngine_den x.1 x.2
theorem szEdit_callable : callable Tryz.prog 30 = true := by kernel_rfl
theorem szEdit_den (a : GEdit) (b : Int) : denF { tt := tt, fs := [szCellFS] } [] Tryz.f30 szEditFS.ps szEditFS.rs szEditFS.ex (a, b) = szEdit a b := by kernel_rfl
theorem szEdit_sound : Sound Tryz.prog szEditFS :=
  sound_of_den (E := { tt := tt, fs := [szCellFS] }) (.cons szCell_callable szCell_sound (.nil tt_ok)) mixed_ok [] (fn := Tryz.f30) (by kernel_rfl) fun x => szEdit_den x.1 x.2
theorem szEditS_callable : callable Tryz.prog 6 = true := by kernel_rfl
theorem szEditS_den (a : List GEdit) (b : Int) : denF { tt := tt, fs := [szEditFS] } [(5, { n := 27, its := [.t 0 (.ro (.list (.base .edit))), .t 1 (.ro (.base .int)), .t 5 (.ro (.base .int))], boxes := [], ptrs := [] })] Tryz.f6 szEditSFS.ps szEditSFS.rs szEditSFS.ex (a, b) = szEditS a b := by kernel_rfl
theorem szEditS_sound : Sound Tryz.prog szEditSFS :=
  sound_of_den (E := { tt := tt, fs := [szEditFS] }) (.cons szEdit_callable szEdit_sound (.nil tt_ok)) mixed_ok [(5, { n := 27, its := [.t 0 (.ro (.list (.base .edit))), .t 1 (.ro (.base .int)), .t 5 (.ro (.base .int))], boxes := [], ptrs := [] })] (fn := Tryz.f6) (by kernel_rfl) fun x => szEditS_den x.1 x.2
theorem sL17Copy_callable : callable Tryz.prog 78 = true := by kernel_rfl
theorem sL17Copy_den (a : GNotebook) : denF { tt := tt, fs := [] } [] Tryz.f78 sL17CopyFS.ps sL17CopyFS.rs sL17CopyFS.ex a = sL17Copy a := by kernel_rfl
theorem sL17Copy_sound : Sound Tryz.prog sL17CopyFS :=
  sound_of_den (E := { tt := tt, fs := [] }) (.nil tt_ok) mixed_ok [] (fn := Tryz.f78) (by kernel_rfl) fun x => sL17Copy_den x
theorem sL1In_callable : callable Tryz.prog 70 = true := by kernel_rfl
theorem sL1In_den (a : Int) (b : Int) (c : Int) : denF { tt := tt, fs := [] } [] Tryz.f70 sL1InFS.ps sL1InFS.rs sL1InFS.ex (a, b, c) = sL1In a b c := by kernel_rfl
theorem sL1In_sound : Sound Tryz.prog sL1InFS :=
  sound_of_den (E := { tt := tt, fs := [] }) (.nil tt_ok) mixed_ok [] (fn := Tryz.f70) (by kernel_rfl) fun x => sL1In_den x.1 x.2.1 x.2.2
theorem sCellIndex_callable : callable Tryz.prog 134 = true := by kernel_rfl
theorem sCellIndex_den (a : GNotebook) (b : Int) : denF { tt := tt, fs := [] } [(2, { n := 22, its := [.t 1 (.ro (.base .int)), .b 2 0 (.ro (.list (.base .cell))), .t 5 (.ro (.base .int))], boxes := [(2, 1)], ptrs := [(2, 2, 0)] })] Tryz.f134 sCellIndexFS.ps sCellIndexFS.rs sCellIndexFS.ex (a, b) = sCellIndex a b := by kernel_rfl
theorem sCellIndex_sound : Sound Tryz.prog sCellIndexFS :=
  sound_of_den (E := { tt := tt, fs := [] }) (.nil tt_ok) mixed_ok [(2, { n := 22, its := [.t 1 (.ro (.base .int)), .b 2 0 (.ro (.list (.base .cell))), .t 5 (.ro (.base .int))], boxes := [(2, 1)], ptrs := [(2, 2, 0)] })] (fn := Tryz.f134) (by kernel_rfl) fun x => sCellIndex_den x.1 x.2
theorem sIsPrintable_callable : callable Tryz.prog 172 = true := by kernel_rfl
theorem sIsPrintable_den (a : Str) : denF { tt := tt, fs := [] } [(2, { n := 23, its := [.t 0 (.ro (.base .str)), .t 3 (.ro (.base .int))], boxes := [], ptrs := [] })] Tryz.f172 sIsPrintableFS.ps sIsPrintableFS.rs sIsPrintableFS.ex a = sIsPrintable a := by kernel_rfl
theorem sIsPrintable_sound : Sound Tryz.prog sIsPrintableFS :=
  sound_of_den (E := { tt := tt, fs := [] }) (.nil tt_ok) mixed_ok [(2, { n := 23, its := [.t 0 (.ro (.base .str)), .t 3 (.ro (.base .int))], boxes := [], ptrs := [] })] (fn := Tryz.f172) (by kernel_rfl) fun x => sIsPrintable_den x
theorem sL2Shape_callable : callable Tryz.prog 196 = true := by kernel_rfl
theorem sL2Shape_den (a : Str) : denF { tt := tt, fs := [] } [(2, { n := 45, its := [.t 0 (.ro (.base .str)), .t 3 (.ro (.base .int))], boxes := [], ptrs := [] })] Tryz.f196 sL2ShapeFS.ps sL2ShapeFS.rs sL2ShapeFS.ex a = sL2Shape a := by kernel_rfl
theorem sL2Shape_sound : Sound Tryz.prog sL2ShapeFS :=
  sound_of_den (E := { tt := tt, fs := [] }) (.nil tt_ok) mixed_ok [(2, { n := 45, its := [.t 0 (.ro (.base .str)), .t 3 (.ro (.base .int))], boxes := [], ptrs := [] })] (fn := Tryz.f196) (by kernel_rfl) fun x => sL2Shape_den x
theorem sL1Has_callable : callable Tryz.prog 207 = true := by kernel_rfl
theorem sL1Has_den (a : List Str) (b : Str) : denF { tt := tt, fs := [] } [(2, { n := 18, its := [.t 0 (.ro (.list (.base .str))), .t 1 (.ro (.base .str)), .t 5 (.ro (.base .int))], boxes := [], ptrs := [] })] Tryz.f207 sL1HasFS.ps sL1HasFS.rs sL1HasFS.ex (a, b) = sL1Has a b := by kernel_rfl
theorem sL1Has_sound : Sound Tryz.prog sL1HasFS :=
  sound_of_den (E := { tt := tt, fs := [] }) (.nil tt_ok) mixed_ok [(2, { n := 18, its := [.t 0 (.ro (.list (.base .str))), .t 1 (.ro (.base .str)), .t 5 (.ro (.base .int))], boxes := [], ptrs := [] })] (fn := Tryz.f207) (by kernel_rfl) fun x => sL1Has_den x.1 x.2
theorem sL2Reserved_callable : callable Tryz.prog 208 = true := by kernel_rfl
theorem sL2Reserved_den : denF { tt := tt, fs := [] } [] Tryz.f208 sL2ReservedFS.ps sL2ReservedFS.rs sL2ReservedFS.ex () = sL2Reserved := by kernel_rfl
theorem sL2Reserved_sound : Sound Tryz.prog sL2ReservedFS :=
  sound_of_den (E := { tt := tt, fs := [] }) (.nil tt_ok) mixed_ok [] (fn := Tryz.f208) (by kernel_rfl) fun x => sL2Reserved_den 
theorem sIsReserved_callable : callable Tryz.prog 197 = true := by kernel_rfl
theorem sIsReserved_den (a : Str) : denF { tt := tt, fs := [sL1HasFS, sL2ReservedFS] } [] Tryz.f197 sIsReservedFS.ps sIsReservedFS.rs sIsReservedFS.ex a = sIsReserved a := by kernel_rfl
theorem sIsReserved_sound : Sound Tryz.prog sIsReservedFS :=
  sound_of_den (E := { tt := tt, fs := [sL1HasFS, sL2ReservedFS] }) (.cons sL1Has_callable sL1Has_sound (.cons sL2Reserved_callable sL2Reserved_sound (.nil tt_ok))) mixed_ok [] (fn := Tryz.f197) (by kernel_rfl) fun x => sIsReserved_den x
theorem sIsValidName_callable : callable Tryz.prog 173 = true := by kernel_rfl
theorem sIsValidName_den (a : Str) : denF { tt := tt, fs := [sL2ShapeFS, sIsReservedFS] } [] Tryz.f173 sIsValidNameFS.ps sIsValidNameFS.rs sIsValidNameFS.ex a = sIsValidName a := by kernel_rfl
theorem sIsValidName_sound : Sound Tryz.prog sIsValidNameFS :=
  sound_of_den (E := { tt := tt, fs := [sL2ShapeFS, sIsReservedFS] }) (.cons sL2Shape_callable sL2Shape_sound (.cons sIsReserved_callable sIsReserved_sound (.nil tt_ok))) mixed_ok [] (fn := Tryz.f173) (by kernel_rfl) fun x => sIsValidName_den x
theorem sIsValidCell_callable : callable Tryz.prog 135 = true := by kernel_rfl
theorem sIsValidCell_den (a : GCell) : denF { tt := tt, fs := [sL1InFS, sIsPrintableFS, sIsValidNameFS] } [] Tryz.f135 sIsValidCellFS.ps sIsValidCellFS.rs sIsValidCellFS.ex a = sIsValidCell a := by kernel_rfl
theorem sIsValidCell_sound : Sound Tryz.prog sIsValidCellFS :=
  sound_of_den (E := { tt := tt, fs := [sL1InFS, sIsPrintableFS, sIsValidNameFS] }) (.cons sL1In_callable sL1In_sound (.cons sIsPrintable_callable sIsPrintable_sound (.cons sIsValidName_callable sIsValidName_sound (.nil tt_ok)))) mixed_ok [] (fn := Tryz.f135) (by kernel_rfl) fun x => sIsValidCell_den x
theorem sIsValidNotebook_callable : callable Tryz.prog 133 = true := by kernel_rfl
theorem sIsValidNotebook_den (a : GNotebook) : denF { tt := tt, fs := [sCellIndexFS, sIsValidCellFS] } [(2, { n := 34, its := [.b 1 0 (.ro (.list (.base .cell))), .t 3 (.ro (.base .int))], boxes := [(1, 1)], ptrs := [(1, 1, 0)] })] Tryz.f133 sIsValidNotebookFS.ps sIsValidNotebookFS.rs sIsValidNotebookFS.ex a = sIsValidNotebook a := by kernel_rfl
theorem sIsValidNotebook_sound : Sound Tryz.prog sIsValidNotebookFS :=
  sound_of_den (E := { tt := tt, fs := [sCellIndexFS, sIsValidCellFS] }) (.cons sCellIndex_callable sCellIndex_sound (.cons sIsValidCell_callable sIsValidCell_sound (.nil tt_ok))) mixed_ok [(2, { n := 34, its := [.b 1 0 (.ro (.list (.base .cell))), .t 3 (.ro (.base .int))], boxes := [(1, 1)], ptrs := [(1, 1, 0)] })] (fn := Tryz.f133) (by kernel_rfl) fun x => sIsValidNotebook_den x
theorem sL1Max_callable : callable Tryz.prog 124 = true := by kernel_rfl
theorem sL1Max_den (a : Int) (b : Int) : denF { tt := tt, fs := [] } [] Tryz.f124 sL1MaxFS.ps sL1MaxFS.rs sL1MaxFS.ex (a, b) = sL1Max a b := by kernel_rfl
theorem sL1Max_sound : Sound Tryz.prog sL1MaxFS :=
  sound_of_den (E := { tt := tt, fs := [] }) (.nil tt_ok) mixed_ok [] (fn := Tryz.f124) (by kernel_rfl) fun x => sL1Max_den x.1 x.2
theorem sL1Min_callable : callable Tryz.prog 174 = true := by kernel_rfl
theorem sL1Min_den (a : Int) (b : Int) : denF { tt := tt, fs := [] } [] Tryz.f174 sL1MinFS.ps sL1MinFS.rs sL1MinFS.ex (a, b) = sL1Min a b := by kernel_rfl
theorem sL1Min_sound : Sound Tryz.prog sL1MinFS :=
  sound_of_den (E := { tt := tt, fs := [] }) (.nil tt_ok) mixed_ok [] (fn := Tryz.f174) (by kernel_rfl) fun x => sL1Min_den x.1 x.2
theorem sL20Put_callable : callable Tryz.prog 136 = true := by kernel_rfl
theorem sL20Put_den (a : List GCell) (b : Int) (c : GCell) : denF { tt := tt, fs := [sL1MaxFS, sL1MinFS] } [] Tryz.f136 sL20PutFS.ps sL20PutFS.rs sL20PutFS.ex (a, b, c) = sL20Put a b c := by kernel_rfl
theorem sL20Put_sound : Sound Tryz.prog sL20PutFS :=
  sound_of_den (E := { tt := tt, fs := [sL1MaxFS, sL1MinFS] }) (.cons sL1Max_callable sL1Max_sound (.cons sL1Min_callable sL1Min_sound (.nil tt_ok))) mixed_ok [] (fn := Tryz.f136) (by kernel_rfl) fun x => sL20Put_den x.1 x.2.1 x.2.2
theorem sL20Drop_callable : callable Tryz.prog 137 = true := by kernel_rfl
theorem sL20Drop_den (a : List GCell) (b : Int) : denF { tt := tt, fs := [] } [] Tryz.f137 sL20DropFS.ps sL20DropFS.rs sL20DropFS.ex (a, b) = sL20Drop a b := by kernel_rfl
theorem sL20Drop_sound : Sound Tryz.prog sL20DropFS :=
  sound_of_den (E := { tt := tt, fs := [] }) (.nil tt_ok) mixed_ok [] (fn := Tryz.f137) (by kernel_rfl) fun x => sL20Drop_den x.1 x.2
theorem sL20Cell_callable : callable Tryz.prog 138 = true := by kernel_rfl
theorem sL20Cell_den (a : GCell) (b : GEdit) : denF { tt := tt, fs := [sIsValidCellFS] } [] Tryz.f138 sL20CellFS.ps sL20CellFS.rs sL20CellFS.ex (a, b) = sL20Cell a b := by kernel_rfl
theorem sL20Cell_sound : Sound Tryz.prog sL20CellFS :=
  sound_of_den (E := { tt := tt, fs := [sIsValidCellFS] }) (.cons sIsValidCell_callable sIsValidCell_sound (.nil tt_ok)) mixed_ok [] (fn := Tryz.f138) (by kernel_rfl) fun x => sL20Cell_den x.1 x.2
theorem sApplyEdit_callable : callable Tryz.prog 79 = true := by kernel_rfl
theorem sApplyEdit_den (a : GNotebook) (b : GEdit) : denF { tt := tt, fs := [sL1InFS, sL17CopyFS, sIsValidNotebookFS, sCellIndexFS, sIsValidCellFS, sL20PutFS, sL20DropFS, sL20CellFS] } [] Tryz.f79 sApplyEditFS.ps sApplyEditFS.rs sApplyEditFS.ex (a, b) = sApplyEdit a b := by kernel_rfl
theorem sApplyEdit_sound : Sound Tryz.prog sApplyEditFS :=
  sound_of_den (E := { tt := tt, fs := [sL1InFS, sL17CopyFS, sIsValidNotebookFS, sCellIndexFS, sIsValidCellFS, sL20PutFS, sL20DropFS, sL20CellFS] }) (.cons sL1In_callable sL1In_sound (.cons sL17Copy_callable sL17Copy_sound (.cons sIsValidNotebook_callable sIsValidNotebook_sound (.cons sCellIndex_callable sCellIndex_sound (.cons sIsValidCell_callable sIsValidCell_sound (.cons sL20Put_callable sL20Put_sound (.cons sL20Drop_callable sL20Drop_sound (.cons sL20Cell_callable sL20Cell_sound (.nil tt_ok))))))))) mixed_ok [] (fn := Tryz.f79) (by kernel_rfl) fun x => sApplyEdit_den x.1 x.2
theorem sApplyBatch_callable : callable Tryz.prog 31 = true := by kernel_rfl
theorem sApplyBatch_den (a : GNotebook) (b : List GEdit) : denF { tt := tt, fs := [sL17CopyFS, sApplyEditFS] } [(3, { n := 34, its := [.t 1 (.ro (.list (.base .edit))), .b 2 0 (.ro (.list (.base .cell))), .b 4 0 (.own (.base .cell) true true 0), .b 6 0 (.own (.base .cell) true true 1), .t 7 (.ro (.base .int))], boxes := [(2, 1), (4, 1), (6, 1)], ptrs := [(2, 2, 0), (4, 4, 0), (6, 6, 0)] })] Tryz.f31 sApplyBatchFS.ps sApplyBatchFS.rs sApplyBatchFS.ex (a, b) = sApplyBatch a b := by kernel_rfl
theorem sApplyBatch_sound : Sound Tryz.prog sApplyBatchFS :=
  sound_of_den (E := { tt := tt, fs := [sL17CopyFS, sApplyEditFS] }) (.cons sL17Copy_callable sL17Copy_sound (.cons sApplyEdit_callable sApplyEdit_sound (.nil tt_ok))) mixed_ok [(3, { n := 34, its := [.t 1 (.ro (.list (.base .edit))), .b 2 0 (.ro (.list (.base .cell))), .b 4 0 (.own (.base .cell) true true 0), .b 6 0 (.own (.base .cell) true true 1), .t 7 (.ro (.base .int))], boxes := [(2, 1), (4, 1), (6, 1)], ptrs := [(2, 2, 0), (4, 4, 0), (6, 6, 0)] })] (fn := Tryz.f31) (by kernel_rfl) fun x => sApplyBatch_den x.1 x.2
theorem sL14Copy_callable : callable Tryz.prog 80 = true := by kernel_rfl
theorem sL14Copy_den (a : GWorld) : denF { tt := tt, fs := [] } [] Tryz.f80 sL14CopyFS.ps sL14CopyFS.rs sL14CopyFS.ex a = sL14Copy a := by kernel_rfl
theorem sL14Copy_sound : Sound Tryz.prog sL14CopyFS :=
  sound_of_den (E := { tt := tt, fs := [] }) (.nil tt_ok) mixed_ok [] (fn := Tryz.f80) (by kernel_rfl) fun x => sL14Copy_den x
theorem sL3Row_callable : callable Tryz.prog 175 = true := by kernel_rfl
theorem sL3Row_den (a : GRow) : denF { tt := tt, fs := [] } [] Tryz.f175 sL3RowFS.ps sL3RowFS.rs sL3RowFS.ex a = sL3Row a := by kernel_rfl
theorem sL3Row_sound : Sound Tryz.prog sL3RowFS :=
  sound_of_den (E := { tt := tt, fs := [] }) (.nil tt_ok) mixed_ok [] (fn := Tryz.f175) (by kernel_rfl) fun x => sL3Row_den x
theorem sL3Copy_callable : callable Tryz.prog 139 = true := by kernel_rfl
theorem sL3Copy_den (rsL3Copy : GVal → Option (GVal)) (a : GVal) : denF { tt := tt, fs := [sL3RowFS, { fid := 139, ps := [⟨true, .base .val⟩], rs := [⟨true, .base .val⟩], ex := true, fn := fun x => rsL3Copy x }] } [(7, { n := 56, its := [.b 1 0 (.ro (.base .int)), .b 1 1 (.ro (.base .int)), .b 1 2 (.ro (.base .int)), .b 1 3 (.ro (.base .str)), .b 1 4 (.ro (.list (.base .val))), .b 1 5 (.ro (.list (.base .str))), .b 1 6 (.ro (.list (.base .row))), .b 2 0 (.ro (.base .int)), .b 2 1 (.ro (.base .int)), .b 2 2 (.ro (.base .int)), .b 2 3 (.ro (.base .str)), .b 2 4 (.own (.base .val) true true 0), .b 2 5 (.own (.base .str) true true 4), .b 2 6 (.own (.base .row) true true 5), .b 3 0 (.ro (.base .int)), .b 3 1 (.ro (.base .int)), .b 3 2 (.ro (.base .int)), .b 3 3 (.ro (.base .str)), .b 3 4 (.own (.base .val) true true 6), .b 3 5 (.own (.base .str) true true 7), .b 3 6 (.own (.base .row) true true 8), .t 5 (.ro (.base .int))], boxes := [(1, 7), (2, 7), (3, 7)], ptrs := [(1, 1, 0), (2, 2, 0), (3, 3, 0)] }), (3, { n := 56, its := [.b 1 0 (.ro (.base .int)), .b 1 1 (.ro (.base .int)), .b 1 2 (.ro (.base .int)), .b 1 3 (.ro (.base .str)), .b 1 4 (.ro (.list (.base .val))), .b 1 5 (.ro (.list (.base .str))), .b 1 6 (.ro (.list (.base .row))), .b 2 0 (.ro (.base .int)), .b 2 1 (.ro (.base .int)), .b 2 2 (.ro (.base .int)), .b 2 3 (.ro (.base .str)), .b 2 4 (.own (.base .val) true true 0), .b 2 5 (.own (.base .str) true true 4), .b 2 6 (.own (.base .row) true true 5), .b 3 0 (.ro (.base .int)), .b 3 1 (.ro (.base .int)), .b 3 2 (.ro (.base .int)), .b 3 3 (.ro (.base .str)), .b 3 4 (.own (.base .val) true true 6), .b 3 5 (.own (.base .str) true true 7), .b 3 6 (.own (.base .row) true true 8), .t 4 (.ro (.base .int))], boxes := [(1, 7), (2, 7), (3, 7)], ptrs := [(1, 1, 0), (2, 2, 0), (3, 3, 0)] })] Tryz.f139 sL3CopyFS.ps sL3CopyFS.rs sL3CopyFS.ex a = sL3CopyB rsL3Copy a := by kernel_rfl
theorem sL3CopyG_sound : ∀ n, Sound Tryz.prog (sL3CopyFSN n)
  | 0 => (fun w S args x y h => by cases h)
  | n + 1 => by
    have ih := sL3CopyG_sound n
    exact sound_of_den (s := sL3CopyFSN (n + 1)) (E := { tt := tt, fs := [sL3RowFS, sL3CopyFSN n] }) (.cons sL3Row_callable sL3Row_sound (.cons sL3Copy_callable ih (.nil tt_ok))) mixed_ok [(7, { n := 56, its := [.b 1 0 (.ro (.base .int)), .b 1 1 (.ro (.base .int)), .b 1 2 (.ro (.base .int)), .b 1 3 (.ro (.base .str)), .b 1 4 (.ro (.list (.base .val))), .b 1 5 (.ro (.list (.base .str))), .b 1 6 (.ro (.list (.base .row))), .b 2 0 (.ro (.base .int)), .b 2 1 (.ro (.base .int)), .b 2 2 (.ro (.base .int)), .b 2 3 (.ro (.base .str)), .b 2 4 (.own (.base .val) true true 0), .b 2 5 (.own (.base .str) true true 4), .b 2 6 (.own (.base .row) true true 5), .b 3 0 (.ro (.base .int)), .b 3 1 (.ro (.base .int)), .b 3 2 (.ro (.base .int)), .b 3 3 (.ro (.base .str)), .b 3 4 (.own (.base .val) true true 6), .b 3 5 (.own (.base .str) true true 7), .b 3 6 (.own (.base .row) true true 8), .t 5 (.ro (.base .int))], boxes := [(1, 7), (2, 7), (3, 7)], ptrs := [(1, 1, 0), (2, 2, 0), (3, 3, 0)] }), (3, { n := 56, its := [.b 1 0 (.ro (.base .int)), .b 1 1 (.ro (.base .int)), .b 1 2 (.ro (.base .int)), .b 1 3 (.ro (.base .str)), .b 1 4 (.ro (.list (.base .val))), .b 1 5 (.ro (.list (.base .str))), .b 1 6 (.ro (.list (.base .row))), .b 2 0 (.ro (.base .int)), .b 2 1 (.ro (.base .int)), .b 2 2 (.ro (.base .int)), .b 2 3 (.ro (.base .str)), .b 2 4 (.own (.base .val) true true 0), .b 2 5 (.own (.base .str) true true 4), .b 2 6 (.own (.base .row) true true 5), .b 3 0 (.ro (.base .int)), .b 3 1 (.ro (.base .int)), .b 3 2 (.ro (.base .int)), .b 3 3 (.ro (.base .str)), .b 3 4 (.own (.base .val) true true 6), .b 3 5 (.own (.base .str) true true 7), .b 3 6 (.own (.base .row) true true 8), .t 4 (.ro (.base .int))], boxes := [(1, 7), (2, 7), (3, 7)], ptrs := [(1, 1, 0), (2, 2, 0), (3, 3, 0)] })] (fn := Tryz.f139) (by kernel_rfl) fun x => sL3Copy_den _ x
theorem sL3Copy_sound : Sound Tryz.prog sL3CopyFS := fun w S args x y h => (sL3CopyG_sound (siz (α := GVal) x + 1)) w S args x y h
theorem sL16Read_callable : callable Tryz.prog 165 = true := by kernel_rfl
theorem sL16Read_den (a : GRead) : denF { tt := tt, fs := [sL3CopyFS] } [] Tryz.f165 sL16ReadFS.ps sL16ReadFS.rs sL16ReadFS.ex a = sL16Read a := by kernel_rfl
theorem sL16Read_sound : Sound Tryz.prog sL16ReadFS :=
  sound_of_den (E := { tt := tt, fs := [sL3CopyFS] }) (.cons sL3Copy_callable sL3Copy_sound (.nil tt_ok)) mixed_ok [] (fn := Tryz.f165) (by kernel_rfl) fun x => sL16Read_den x
theorem sL16Reads_callable : callable Tryz.prog 123 = true := by kernel_rfl
theorem sL16Reads_den (a : List GRead) : denF { tt := tt, fs := [sL16ReadFS] } [(3, { n := 21, its := [.t 0 (.ro (.list (.base .read))), .t 3 (.own (.base .read) true true 0), .t 4 (.ro (.base .int))], boxes := [], ptrs := [] })] Tryz.f123 sL16ReadsFS.ps sL16ReadsFS.rs sL16ReadsFS.ex a = sL16Reads a := by kernel_rfl
theorem sL16Reads_sound : Sound Tryz.prog sL16ReadsFS :=
  sound_of_den (E := { tt := tt, fs := [sL16ReadFS] }) (.cons sL16Read_callable sL16Read_sound (.nil tt_ok)) mixed_ok [(3, { n := 21, its := [.t 0 (.ro (.list (.base .read))), .t 3 (.own (.base .read) true true 0), .t 4 (.ro (.base .int))], boxes := [], ptrs := [] })] (fn := Tryz.f123) (by kernel_rfl) fun x => sL16Reads_den x
theorem sL26Copy_callable : callable Tryz.prog 81 = true := by kernel_rfl
theorem sL26Copy_den (a : List GTape) : denF { tt := tt, fs := [sL16ReadsFS] } [(3, { n := 33, its := [.t 0 (.ro (.list (.base .tape))), .t 3 (.own (.base .tape) true true 0), .t 4 (.ro (.base .int))], boxes := [], ptrs := [] })] Tryz.f81 sL26CopyFS.ps sL26CopyFS.rs sL26CopyFS.ex a = sL26Copy a := by kernel_rfl
theorem sL26Copy_sound : Sound Tryz.prog sL26CopyFS :=
  sound_of_den (E := { tt := tt, fs := [sL16ReadsFS] }) (.cons sL16Reads_callable sL16Reads_sound (.nil tt_ok)) mixed_ok [(3, { n := 33, its := [.t 0 (.ro (.list (.base .tape))), .t 3 (.own (.base .tape) true true 0), .t 4 (.ro (.base .int))], boxes := [], ptrs := [] })] (fn := Tryz.f81) (by kernel_rfl) fun x => sL26Copy_den x
theorem sL28Entry_callable : callable Tryz.prog 82 = true := by kernel_rfl
theorem sL28Entry_den (a : GEntry) : denF { tt := tt, fs := [sL3CopyFS] } [] Tryz.f82 sL28EntryFS.ps sL28EntryFS.rs sL28EntryFS.ex a = sL28Entry a := by kernel_rfl
theorem sL28Entry_sound : Sound Tryz.prog sL28EntryFS :=
  sound_of_den (E := { tt := tt, fs := [sL3CopyFS] }) (.cons sL3Copy_callable sL3Copy_sound (.nil tt_ok)) mixed_ok [] (fn := Tryz.f82) (by kernel_rfl) fun x => sL28Entry_den x
theorem sL28Copy_callable : callable Tryz.prog 32 = true := by kernel_rfl
theorem sL28Copy_den (a : GEngine) : denF { tt := tt, fs := [sL17CopyFS, sL14CopyFS, sL26CopyFS, sL28EntryFS] } [(3, { n := 40, its := [.b 1 0 (.ro (.list (.base .cell))), .b 1 1 (.ro (.base .int)), .b 1 2 (.ro (.base .int)), .b 1 3 (.ro (.list (.base .file))), .b 1 4 (.ro (.list (.base .tape))), .b 1 5 (.ro (.list (.base .entry))), .b 1 6 (.ro (.base .int)), .b 1 7 (.ro (.base .int)), .b 1 8 (.ro (.base .int)), .b 2 0 (.own (.base .cell) true true 0), .b 2 1 (.ro (.base .int)), .b 2 2 (.ro (.base .int)), .b 2 3 (.own (.base .file) true true 4), .b 2 4 (.own (.base .tape) true true 5), .b 2 5 (.own (.base .entry) true true 6), .b 2 6 (.ro (.base .int)), .b 2 7 (.ro (.base .int)), .b 2 8 (.ro (.base .int)), .b 3 0 (.own (.base .cell) true true 8), .b 3 1 (.ro (.base .int)), .b 3 2 (.ro (.base .int)), .b 3 3 (.own (.base .file) true true 9), .b 3 4 (.own (.base .tape) true true 11), .b 3 5 (.own (.base .entry) true true 12), .b 3 6 (.ro (.base .int)), .b 3 7 (.ro (.base .int)), .b 3 8 (.ro (.base .int)), .t 4 (.ro (.base .int))], boxes := [(1, 9), (2, 9), (3, 9)], ptrs := [(1, 1, 0), (2, 2, 0), (3, 3, 0)] })] Tryz.f32 sL28CopyFS.ps sL28CopyFS.rs sL28CopyFS.ex a = sL28Copy a := by kernel_rfl
theorem sL28Copy_sound : Sound Tryz.prog sL28CopyFS :=
  sound_of_den (E := { tt := tt, fs := [sL17CopyFS, sL14CopyFS, sL26CopyFS, sL28EntryFS] }) (.cons sL17Copy_callable sL17Copy_sound (.cons sL14Copy_callable sL14Copy_sound (.cons sL26Copy_callable sL26Copy_sound (.cons sL28Entry_callable sL28Entry_sound (.nil tt_ok))))) mixed_ok [(3, { n := 40, its := [.b 1 0 (.ro (.list (.base .cell))), .b 1 1 (.ro (.base .int)), .b 1 2 (.ro (.base .int)), .b 1 3 (.ro (.list (.base .file))), .b 1 4 (.ro (.list (.base .tape))), .b 1 5 (.ro (.list (.base .entry))), .b 1 6 (.ro (.base .int)), .b 1 7 (.ro (.base .int)), .b 1 8 (.ro (.base .int)), .b 2 0 (.own (.base .cell) true true 0), .b 2 1 (.ro (.base .int)), .b 2 2 (.ro (.base .int)), .b 2 3 (.own (.base .file) true true 4), .b 2 4 (.own (.base .tape) true true 5), .b 2 5 (.own (.base .entry) true true 6), .b 2 6 (.ro (.base .int)), .b 2 7 (.ro (.base .int)), .b 2 8 (.ro (.base .int)), .b 3 0 (.own (.base .cell) true true 8), .b 3 1 (.ro (.base .int)), .b 3 2 (.ro (.base .int)), .b 3 3 (.own (.base .file) true true 9), .b 3 4 (.own (.base .tape) true true 11), .b 3 5 (.own (.base .entry) true true 12), .b 3 6 (.ro (.base .int)), .b 3 7 (.ro (.base .int)), .b 3 8 (.ro (.base .int)), .t 4 (.ro (.base .int))], boxes := [(1, 9), (2, 9), (3, 9)], ptrs := [(1, 1, 0), (2, 2, 0), (3, 3, 0)] })] (fn := Tryz.f32) (by kernel_rfl) fun x => sL28Copy_den x
theorem sEditEngine_callable : callable Tryz.prog 83 = true := by kernel_rfl
theorem sEditEngine_den (a : GEngine) (b : GEdit) : denF { tt := tt, fs := [sL28CopyFS, sApplyEditFS, sL28EntryFS, sCellIndexFS] } [(8, { n := 54, its := [.b 2 0 (.ro (.list (.base .cell))), .b 2 1 (.ro (.base .int)), .b 2 2 (.ro (.base .int)), .b 2 3 (.ro (.list (.base .file))), .b 2 4 (.ro (.list (.base .tape))), .b 2 5 (.ro (.list (.base .entry))), .b 2 6 (.ro (.base .int)), .b 2 7 (.ro (.base .int)), .b 2 8 (.ro (.base .int)), .b 4 0 (.own (.base .cell) true true 0), .b 4 1 (.ro (.base .int)), .b 4 2 (.ro (.base .int)), .b 4 3 (.own (.base .file) true true 1), .b 4 4 (.own (.base .tape) true true 5), .b 4 5 (.own (.base .entry) true true 7), .b 4 6 (.ro (.base .int)), .b 4 7 (.ro (.base .int)), .b 4 8 (.ro (.base .int)), .b 6 0 (.own (.base .cell) true true 9), .b 8 1 (.ro (.base .int)), .b 8 2 (.ro (.base .int)), .b 8 3 (.own (.base .file) true true 10), .b 8 4 (.own (.base .tape) true true 11), .b 8 5 (.own (.base .entry) true true 12), .b 8 6 (.ro (.base .int)), .b 8 7 (.ro (.base .int)), .b 8 8 (.ro (.base .int)), .t 9 (.ro (.base .int))], boxes := [(2, 9), (4, 9), (6, 1), (8, 9)], ptrs := [(2, 2, 0), (4, 4, 0), (6, 6, 0), (8, 8, 0)], bls := [(8, 0, 6, 0)] })] Tryz.f83 sEditEngineFS.ps sEditEngineFS.rs sEditEngineFS.ex (a, b) = sEditEngine a b := by kernel_rfl
theorem sEditEngine_sound : Sound Tryz.prog sEditEngineFS :=
  sound_of_den (E := { tt := tt, fs := [sL28CopyFS, sApplyEditFS, sL28EntryFS, sCellIndexFS] }) (.cons sL28Copy_callable sL28Copy_sound (.cons sApplyEdit_callable sApplyEdit_sound (.cons sL28Entry_callable sL28Entry_sound (.cons sCellIndex_callable sCellIndex_sound (.nil tt_ok))))) mixed_ok [(8, { n := 54, its := [.b 2 0 (.ro (.list (.base .cell))), .b 2 1 (.ro (.base .int)), .b 2 2 (.ro (.base .int)), .b 2 3 (.ro (.list (.base .file))), .b 2 4 (.ro (.list (.base .tape))), .b 2 5 (.ro (.list (.base .entry))), .b 2 6 (.ro (.base .int)), .b 2 7 (.ro (.base .int)), .b 2 8 (.ro (.base .int)), .b 4 0 (.own (.base .cell) true true 0), .b 4 1 (.ro (.base .int)), .b 4 2 (.ro (.base .int)), .b 4 3 (.own (.base .file) true true 1), .b 4 4 (.own (.base .tape) true true 5), .b 4 5 (.own (.base .entry) true true 7), .b 4 6 (.ro (.base .int)), .b 4 7 (.ro (.base .int)), .b 4 8 (.ro (.base .int)), .b 6 0 (.own (.base .cell) true true 9), .b 8 1 (.ro (.base .int)), .b 8 2 (.ro (.base .int)), .b 8 3 (.own (.base .file) true true 10), .b 8 4 (.own (.base .tape) true true 11), .b 8 5 (.own (.base .entry) true true 12), .b 8 6 (.ro (.base .int)), .b 8 7 (.ro (.base .int)), .b 8 8 (.ro (.base .int)), .t 9 (.ro (.base .int))], boxes := [(2, 9), (4, 9), (6, 1), (8, 9)], ptrs := [(2, 2, 0), (4, 4, 0), (6, 6, 0), (8, 8, 0)], bls := [(8, 0, 6, 0)] })] (fn := Tryz.f83) (by kernel_rfl) fun x => sEditEngine_den x.1 x.2
theorem sEditEngineAll_callable : callable Tryz.prog 33 = true := by kernel_rfl
theorem sEditEngineAll_den (a : GEngine) (b : List GEdit) : denF { tt := tt, fs := [sL28CopyFS, sEditEngineFS] } [(4, { n := 36, its := [.t 1 (.ro (.list (.base .edit))), .b 4 0 (.own (.base .cell) true true 0), .b 4 1 (.ro (.base .int)), .b 4 2 (.ro (.base .int)), .b 4 3 (.own (.base .file) true true 1), .b 4 4 (.own (.base .tape) true true 3), .b 4 5 (.own (.base .entry) true true 5), .b 4 6 (.ro (.base .int)), .b 4 7 (.ro (.base .int)), .b 4 8 (.ro (.base .int)), .b 6 0 (.own (.base .cell) true true 7), .b 6 1 (.ro (.base .int)), .b 6 2 (.ro (.base .int)), .b 6 3 (.own (.base .file) true true 8), .b 6 4 (.own (.base .tape) true true 10), .b 6 5 (.own (.base .entry) true true 11), .b 6 6 (.ro (.base .int)), .b 6 7 (.ro (.base .int)), .b 6 8 (.ro (.base .int)), .t 7 (.own (.base .int) true true 14), .t 8 (.ro (.base .int))], boxes := [(4, 9), (6, 9)], ptrs := [(4, 4, 0), (6, 6, 0)] })] Tryz.f33 sEditEngineAllFS.ps sEditEngineAllFS.rs sEditEngineAllFS.ex (a, b) = sEditEngineAll a b := by kernel_rfl
theorem sEditEngineAll_sound : Sound Tryz.prog sEditEngineAllFS :=
  sound_of_den (E := { tt := tt, fs := [sL28CopyFS, sEditEngineFS] }) (.cons sL28Copy_callable sL28Copy_sound (.cons sEditEngine_callable sEditEngine_sound (.nil tt_ok))) mixed_ok [(4, { n := 36, its := [.t 1 (.ro (.list (.base .edit))), .b 4 0 (.own (.base .cell) true true 0), .b 4 1 (.ro (.base .int)), .b 4 2 (.ro (.base .int)), .b 4 3 (.own (.base .file) true true 1), .b 4 4 (.own (.base .tape) true true 3), .b 4 5 (.own (.base .entry) true true 5), .b 4 6 (.ro (.base .int)), .b 4 7 (.ro (.base .int)), .b 4 8 (.ro (.base .int)), .b 6 0 (.own (.base .cell) true true 7), .b 6 1 (.ro (.base .int)), .b 6 2 (.ro (.base .int)), .b 6 3 (.own (.base .file) true true 8), .b 6 4 (.own (.base .tape) true true 10), .b 6 5 (.own (.base .entry) true true 11), .b 6 6 (.ro (.base .int)), .b 6 7 (.ro (.base .int)), .b 6 8 (.ro (.base .int)), .t 7 (.own (.base .int) true true 14), .t 8 (.ro (.base .int))], boxes := [(4, 9), (6, 9)], ptrs := [(4, 4, 0), (6, 6, 0)] })] (fn := Tryz.f33) (by kernel_rfl) fun x => sEditEngineAll_den x.1 x.2
theorem sBatchEngine_callable : callable Tryz.prog 7 = true := by kernel_rfl
theorem sBatchEngine_den (a : GEngine) (b : List GEdit) : denF { tt := tt, fs := [sApplyBatchFS, sL28CopyFS, sEditEngineAllFS] } [] Tryz.f7 sBatchEngineFS.ps sBatchEngineFS.rs sBatchEngineFS.ex (a, b) = sBatchEngine a b := by kernel_rfl
theorem sBatchEngine_sound : Sound Tryz.prog sBatchEngineFS :=
  sound_of_den (E := { tt := tt, fs := [sApplyBatchFS, sL28CopyFS, sEditEngineAllFS] }) (.cons sApplyBatch_callable sApplyBatch_sound (.cons sL28Copy_callable sL28Copy_sound (.cons sEditEngineAll_callable sEditEngineAll_sound (.nil tt_ok)))) mixed_ok [] (fn := Tryz.f7) (by kernel_rfl) fun x => sBatchEngine_den x.1 x.2
theorem toCell_callable : callable Tryz.prog 88 = true := by kernel_rfl
theorem toCell_den (a : GCell) : denF { tt := tt, fs := [] } [] Tryz.f88 toCellFS.ps toCellFS.rs toCellFS.ex a = toCell a := by kernel_rfl
theorem toCell_sound : Sound Tryz.prog toCellFS :=
  sound_of_den (E := { tt := tt, fs := [] }) (.nil tt_ok) mixed_ok [] (fn := Tryz.f88) (by kernel_rfl) fun x => toCell_den x
theorem toCellS_callable : callable Tryz.prog 84 = true := by kernel_rfl
theorem toCellS_den (a : List GCell) : denF { tt := tt, fs := [toCellFS] } [(3, { n := 23, its := [.t 0 (.ro (.list (.base .cell))), .t 3 (.own (.base .cell) true true 0), .t 4 (.ro (.base .int))], boxes := [], ptrs := [] })] Tryz.f84 toCellSFS.ps toCellSFS.rs toCellSFS.ex a = toCellS a := by kernel_rfl
theorem toCellS_sound : Sound Tryz.prog toCellSFS :=
  sound_of_den (E := { tt := tt, fs := [toCellFS] }) (.cons toCell_callable toCell_sound (.nil tt_ok)) mixed_ok [(3, { n := 23, its := [.t 0 (.ro (.list (.base .cell))), .t 3 (.own (.base .cell) true true 0), .t 4 (.ro (.base .int))], boxes := [], ptrs := [] })] (fn := Tryz.f84) (by kernel_rfl) fun x => toCellS_den x
theorem toNotebook_callable : callable Tryz.prog 34 = true := by kernel_rfl
theorem toNotebook_den (a : GNotebook) : denF { tt := tt, fs := [toCellSFS] } [] Tryz.f34 toNotebookFS.ps toNotebookFS.rs toNotebookFS.ex a = toNotebook a := by kernel_rfl
theorem toNotebook_sound : Sound Tryz.prog toNotebookFS :=
  sound_of_den (E := { tt := tt, fs := [toCellSFS] }) (.cons toCellS_callable toCellS_sound (.nil tt_ok)) mixed_ok [] (fn := Tryz.f34) (by kernel_rfl) fun x => toNotebook_den x
theorem toFile_callable : callable Tryz.prog 140 = true := by kernel_rfl
theorem toFile_den (a : GFile) : denF { tt := tt, fs := [] } [] Tryz.f140 toFileFS.ps toFileFS.rs toFileFS.ex a = toFile a := by kernel_rfl
theorem toFile_sound : Sound Tryz.prog toFileFS :=
  sound_of_den (E := { tt := tt, fs := [] }) (.nil tt_ok) mixed_ok [] (fn := Tryz.f140) (by kernel_rfl) fun x => toFile_den x
theorem toFileS_callable : callable Tryz.prog 85 = true := by kernel_rfl
theorem toFileS_den (a : List GFile) : denF { tt := tt, fs := [toFileFS] } [(3, { n := 23, its := [.t 0 (.ro (.list (.base .file))), .t 3 (.own (.base .file) true true 0), .t 4 (.ro (.base .int))], boxes := [], ptrs := [] })] Tryz.f85 toFileSFS.ps toFileSFS.rs toFileSFS.ex a = toFileS a := by kernel_rfl
theorem toFileS_sound : Sound Tryz.prog toFileSFS :=
  sound_of_den (E := { tt := tt, fs := [toFileFS] }) (.cons toFile_callable toFile_sound (.nil tt_ok)) mixed_ok [(3, { n := 23, its := [.t 0 (.ro (.list (.base .file))), .t 3 (.own (.base .file) true true 0), .t 4 (.ro (.base .int))], boxes := [], ptrs := [] })] (fn := Tryz.f85) (by kernel_rfl) fun x => toFileS_den x
theorem toWorld_callable : callable Tryz.prog 35 = true := by kernel_rfl
theorem toWorld_den (a : GWorld) : denF { tt := tt, fs := [toFileSFS] } [] Tryz.f35 toWorldFS.ps toWorldFS.rs toWorldFS.ex a = toWorld a := by kernel_rfl
theorem toWorld_sound : Sound Tryz.prog toWorldFS :=
  sound_of_den (E := { tt := tt, fs := [toFileSFS] }) (.cons toFileS_callable toFileS_sound (.nil tt_ok)) mixed_ok [] (fn := Tryz.f35) (by kernel_rfl) fun x => toWorld_den x
theorem toStringS_callable : callable Tryz.prog 178 = true := by kernel_rfl
theorem toStringS_den (a : List Str) : denF { tt := tt, fs := [] } [(3, { n := 22, its := [.t 0 (.ro (.list (.base .str))), .t 3 (.own (.base .str) true true 0), .t 4 (.ro (.base .int))], boxes := [], ptrs := [] })] Tryz.f178 toStringSFS.ps toStringSFS.rs toStringSFS.ex a = toStringS a := by kernel_rfl
theorem toStringS_sound : Sound Tryz.prog toStringSFS :=
  sound_of_den (E := { tt := tt, fs := [] }) (.nil tt_ok) mixed_ok [(3, { n := 22, its := [.t 0 (.ro (.list (.base .str))), .t 3 (.own (.base .str) true true 0), .t 4 (.ro (.base .int))], boxes := [], ptrs := [] })] (fn := Tryz.f178) (by kernel_rfl) fun x => toStringS_den x
theorem toIntS_callable : callable Tryz.prog 142 = true := by kernel_rfl
theorem toIntS_den (a : List Int) : denF { tt := tt, fs := [] } [(3, { n := 22, its := [.t 0 (.ro (.list (.base .int))), .t 3 (.own (.base .int) true true 0), .t 4 (.ro (.base .int))], boxes := [], ptrs := [] })] Tryz.f142 toIntSFS.ps toIntSFS.rs toIntSFS.ex a = toIntS a := by kernel_rfl
theorem toIntS_sound : Sound Tryz.prog toIntSFS :=
  sound_of_den (E := { tt := tt, fs := [] }) (.nil tt_ok) mixed_ok [(3, { n := 22, its := [.t 0 (.ro (.list (.base .int))), .t 3 (.own (.base .int) true true 0), .t 4 (.ro (.base .int))], boxes := [], ptrs := [] })] (fn := Tryz.f142) (by kernel_rfl) fun x => toIntS_den x
theorem toOrigin_callable : callable Tryz.prog 226 = true := by kernel_rfl
theorem toOrigin_den (a : GOrigin) : denF { tt := tt, fs := [] } [] Tryz.f226 toOriginFS.ps toOriginFS.rs toOriginFS.ex a = toOrigin a := by kernel_rfl
theorem toOrigin_sound : Sound Tryz.prog toOriginFS :=
  sound_of_den (E := { tt := tt, fs := [] }) (.nil tt_ok) mixed_ok [] (fn := Tryz.f226) (by kernel_rfl) fun x => toOrigin_den x
end Go.Proofs.YtopcobafmnpmkaaGreat
