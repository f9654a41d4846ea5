/- The functions compute their models, by gen.py. -/
import Derived.Test.YtopcobafmnpmkaaGreatDen1
namespace Go.Proofs.YtopcobafmnpmkaaGreat
open Go.Abs Go.Proofs
set_option maxRecDepth 100000
theorem eqEdit_callable : callable Tryz.prog 46 = true := by kernel_rfl
theorem eqEdit_den (a : GEdit) (b : GEdit) : denF { tt := tt, fs := [eqCellFS] } [] Tryz.f46 eqEditFS.ps eqEditFS.rs eqEditFS.ex (a, b) = eqEdit a b := by kernel_rfl
theorem eqEdit_sound : Sound Tryz.prog eqEditFS :=
  sound_of_den (E := { tt := tt, fs := [eqCellFS] }) (.cons eqCell_callable eqCell_sound (.nil tt_ok)) mixed_ok [] (fn := Tryz.f46) (by kernel_rfl) fun x => eqEdit_den x.1 x.2
theorem eqEditS_callable : callable Tryz.prog 12 = true := by kernel_rfl
theorem eqEditS_den (a : List GEdit) (b : List GEdit) : denF { tt := tt, fs := [eqEditFS] } [(4, { n := 27, its := [.t 0 (.ro (.list (.base .edit))), .t 1 (.ro (.list (.base .edit))), .t 5 (.ro (.base .int))], boxes := [], ptrs := [] })] Tryz.f12 eqEditSFS.ps eqEditSFS.rs eqEditSFS.ex (a, b) = eqEditS a b := by kernel_rfl
theorem eqEditS_sound : Sound Tryz.prog eqEditSFS :=
  sound_of_den (E := { tt := tt, fs := [eqEditFS] }) (.cons eqEdit_callable eqEdit_sound (.nil tt_ok)) mixed_ok [(4, { n := 27, its := [.t 0 (.ro (.list (.base .edit))), .t 1 (.ro (.list (.base .edit))), .t 5 (.ro (.base .int))], boxes := [], ptrs := [] })] (fn := Tryz.f12) (by kernel_rfl) fun x => eqEditS_den x.1 x.2
theorem markText_callable : callable Tryz.prog 51 = true := by kernel_rfl
theorem markText_den (a : Int) : denF { tt := tt, fs := [] } [(4, { n := 20, its := [.t 0 (.ro (.base .int)), .t 3 (.ro (.base .str))], boxes := [], ptrs := [] })] Tryz.f51 markTextFS.ps markTextFS.rs markTextFS.ex a = markText a := by kernel_rfl
theorem markText_sound : Sound Tryz.prog markTextFS :=
  sound_of_den (E := { tt := tt, fs := [] }) (.nil tt_ok) mixed_ok [(4, { n := 20, its := [.t 0 (.ro (.base .int)), .t 3 (.ro (.base .str))], boxes := [], ptrs := [] })] (fn := Tryz.f51) (by kernel_rfl) fun x => markText_den x
theorem markCellS_callable : callable Tryz.prog 100 = true := by kernel_rfl
theorem markCellS_den (a : List GCell) (b : Int) : denMF { tt := tt, fs := [markTextFS] } [(2, { n := 57, ty := .base .cell, si := 5, sk := 1 })] Tryz.f100 markCellSMS.sh a b = markCellS a b := by kernel_rfl
theorem markCellS_msound : MSound Tryz.prog markCellSMS :=
  msound_of_den (E := { tt := tt, fs := [markTextFS] }) (.cons markText_callable markText_sound (.nil tt_ok)) [(2, { n := 57, ty := .base .cell, si := 5, sk := 1 })] (fn := Tryz.f100) (by kernel_rfl) fun x n => markCellS_den x n
theorem markNotebook_callable : callable Tryz.prog 47 = true := by kernel_rfl
theorem markNotebook_den (a : GNotebook) (b : Int) : denMF { tt := tt, fs := [], ms := [markCellSMS] } [] Tryz.f47 markNotebookMS.sh a b = markNotebook a b := by kernel_rfl
theorem markNotebook_msound : MSound Tryz.prog markNotebookMS :=
  msound_of_den (E := { tt := tt, fs := [], ms := [markCellSMS] }) (.consM markCellS_callable markCellS_msound (.nil tt_ok)) [] (fn := Tryz.f47) (by kernel_rfl) fun x n => markNotebook_den x n
theorem markFileS_callable : callable Tryz.prog 101 = true := by kernel_rfl
theorem markFileS_den (a : List GFile) (b : Int) : denMF { tt := tt, fs := [markTextFS] } [(2, { n := 28, ty := .base .file, si := 5, sk := 1 })] Tryz.f101 markFileSMS.sh a b = markFileS a b := by kernel_rfl
theorem markFileS_msound : MSound Tryz.prog markFileSMS :=
  msound_of_den (E := { tt := tt, fs := [markTextFS] }) (.cons markText_callable markText_sound (.nil tt_ok)) [(2, { n := 28, ty := .base .file, si := 5, sk := 1 })] (fn := Tryz.f101) (by kernel_rfl) fun x n => markFileS_den x n
theorem markWorld_callable : callable Tryz.prog 48 = true := by kernel_rfl
theorem markWorld_den (a : GWorld) (b : Int) : denMF { tt := tt, fs := [], ms := [markFileSMS] } [] Tryz.f48 markWorldMS.sh a b = markWorld a b := by kernel_rfl
theorem markWorld_msound : MSound Tryz.prog markWorldMS :=
  msound_of_den (E := { tt := tt, fs := [], ms := [markFileSMS] }) (.consM markFileS_callable markFileS_msound (.nil tt_ok)) [] (fn := Tryz.f48) (by kernel_rfl) fun x n => markWorld_den x n
theorem markStringS_callable : callable Tryz.prog 105 = true := by kernel_rfl
theorem markStringS_den (a : List Str) (b : Int) : denMF { tt := tt, fs := [markTextFS] } [(2, { n := 20, ty := .base .str, si := 5, sk := 1 })] Tryz.f105 markStringSMS.sh a b = markStringS a b := by kernel_rfl
theorem markStringS_msound : MSound Tryz.prog markStringSMS :=
  msound_of_den (E := { tt := tt, fs := [markTextFS] }) (.cons markText_callable markText_sound (.nil tt_ok)) [(2, { n := 20, ty := .base .str, si := 5, sk := 1 })] (fn := Tryz.f105) (by kernel_rfl) fun x n => markStringS_den x n
theorem markIntS_callable : callable Tryz.prog 103 = true := by kernel_rfl
theorem markIntS_den (a : List Int) (b : Int) : denMF { tt := tt, fs := [] } [(2, { n := 19, ty := .base .int, si := 5, sk := 1 })] Tryz.f103 markIntSMS.sh a b = markIntS a b := by kernel_rfl
theorem markIntS_msound : MSound Tryz.prog markIntSMS :=
  msound_of_den (E := { tt := tt, fs := [] }) (.nil tt_ok) [(2, { n := 19, ty := .base .int, si := 5, sk := 1 })] (fn := Tryz.f103) (by kernel_rfl) fun x n => markIntS_den x n
theorem markOriginS_callable : callable Tryz.prog 153 = true := by kernel_rfl
theorem markOriginS_den (a : List GOrigin) (b : Int) : denMF { tt := tt, fs := [] } [(2, { n := 27, ty := .base .origin, si := 5, sk := 1 })] Tryz.f153 markOriginSMS.sh a b = markOriginS a b := by kernel_rfl
theorem markOriginS_msound : MSound Tryz.prog markOriginSMS :=
  msound_of_den (E := { tt := tt, fs := [] }) (.nil tt_ok) [(2, { n := 27, ty := .base .origin, si := 5, sk := 1 })] (fn := Tryz.f153) (by kernel_rfl) fun x n => markOriginS_den x n
theorem markRowS_callable : callable Tryz.prog 106 = true := by kernel_rfl
theorem markRowS_den (a : List GRow) (b : Int) : denMF { tt := tt, fs := [], ms := [markIntSMS, markOriginSMS] } [(2, { n := 27, ty := .base .row, si := 5, sk := 1 })] Tryz.f106 markRowSMS.sh a b = markRowS a b := by kernel_rfl
theorem markRowS_msound : MSound Tryz.prog markRowSMS :=
  msound_of_den (E := { tt := tt, fs := [], ms := [markIntSMS, markOriginSMS] }) (.consM markIntS_callable markIntS_msound (.consM markOriginS_callable markOriginS_msound (.nil tt_ok))) [(2, { n := 27, ty := .base .row, si := 5, sk := 1 })] (fn := Tryz.f106) (by kernel_rfl) fun x n => markRowS_den x n
theorem markValueS_callable : callable Tryz.prog 104 = true := by kernel_rfl
theorem markValueS_den (rmarkValueS : (List GVal) → Int → Option (List GVal × Int)) (a : List GVal) (b : Int) : denMF { tt := tt, fs := [markTextFS], ms := [markStringSMS, markRowSMS, { fid := 104, sh := ⟨false, .list (.base .val)⟩, fn := fun x n => rmarkValueS x n }] } [(2, { n := 63, ty := .base .val, si := 5, sk := 1 })] Tryz.f104 markValueSMS.sh a b = markValueSB rmarkValueS a b := by kernel_rfl
theorem markValueSG_msound : ∀ k, MSound Tryz.prog (markValueSMSN k)
  | 0 => fun w u x n r fps h => (by cases h)
  | k + 1 => msound_of_den (m := markValueSMSN (k + 1)) (E := { tt := tt, fs := [markTextFS], ms := [markStringSMS, markRowSMS, markValueSMSN k] }) (.cons markText_callable markText_sound (.consM markStringS_callable markStringS_msound (.consM markRowS_callable markRowS_msound (.consM markValueS_callable (markValueSG_msound k) (.nil tt_ok))))) [(2, { n := 63, ty := .base .val, si := 5, sk := 1 })] (fn := Tryz.f104) (by kernel_rfl) fun x n => markValueS_den _ x n
theorem markValueS_msound : MSound Tryz.prog markValueSMS := MSound.fuel (fid := 104) (sh := ⟨false, .list (.base .val)⟩) (G := fun k x n => markValueSG k x n) (f := fun x n => markValueS x n) markValueSG_msound (fun x => siz (α := List GVal) x + 1) (fun _ _ => rfl)
theorem markReadS_callable : callable Tryz.prog 102 = true := by kernel_rfl
theorem markReadS_den (a : List GRead) (b : Int) : denMF { tt := tt, fs := [markTextFS], ms := [markValueSMS, markStringSMS, markRowSMS] } [(2, { n := 99, ty := .base .read, si := 5, sk := 1 })] Tryz.f102 markReadSMS.sh a b = markReadS a b := by kernel_rfl
theorem markReadS_msound : MSound Tryz.prog markReadSMS :=
  msound_of_den (E := { tt := tt, fs := [markTextFS], ms := [markValueSMS, markStringSMS, markRowSMS] }) (.cons markText_callable markText_sound (.consM markValueS_callable markValueS_msound (.consM markStringS_callable markStringS_msound (.consM markRowS_callable markRowS_msound (.nil tt_ok))))) [(2, { n := 99, ty := .base .read, si := 5, sk := 1 })] (fn := Tryz.f102) (by kernel_rfl) fun x n => markReadS_den x n
theorem markTapeS_callable : callable Tryz.prog 49 = true := by kernel_rfl
theorem markTapeS_den (a : List GTape) (b : Int) : denMF { tt := tt, fs := [], ms := [markReadSMS] } [(2, { n := 34, ty := .base .tape, si := 5, sk := 1 })] Tryz.f49 markTapeSMS.sh a b = markTapeS a b := by kernel_rfl
theorem markTapeS_msound : MSound Tryz.prog markTapeSMS :=
  msound_of_den (E := { tt := tt, fs := [], ms := [markReadSMS] }) (.consM markReadS_callable markReadS_msound (.nil tt_ok)) [(2, { n := 34, ty := .base .tape, si := 5, sk := 1 })] (fn := Tryz.f49) (by kernel_rfl) fun x n => markTapeS_den x n
theorem markEntryS_callable : callable Tryz.prog 50 = true := by kernel_rfl
theorem markEntryS_den (a : List GEntry) (b : Int) : denMF { tt := tt, fs := [markTextFS], ms := [markIntSMS, markValueSMS, markStringSMS, markRowSMS] } [(2, { n := 107, ty := .base .entry, si := 5, sk := 1 })] Tryz.f50 markEntrySMS.sh a b = markEntryS a b := by kernel_rfl
theorem markEntryS_msound : MSound Tryz.prog markEntrySMS :=
  msound_of_den (E := { tt := tt, fs := [markTextFS], ms := [markIntSMS, markValueSMS, markStringSMS, markRowSMS] }) (.cons markText_callable markText_sound (.consM markIntS_callable markIntS_msound (.consM markValueS_callable markValueS_msound (.consM markStringS_callable markStringS_msound (.consM markRowS_callable markRowS_msound (.nil tt_ok)))))) [(2, { n := 107, ty := .base .entry, si := 5, sk := 1 })] (fn := Tryz.f50) (by kernel_rfl) fun x n => markEntryS_den x n
theorem markEngine_callable : callable Tryz.prog 13 = true := by kernel_rfl
theorem markEngine_den (a : GEngine) (b : Int) : denMF { tt := tt, fs := [], ms := [markNotebookMS, markWorldMS, markTapeSMS, markEntrySMS] } [] Tryz.f13 markEngineMS.sh a b = markEngine a b := by kernel_rfl
theorem markEngine_msound : MSound Tryz.prog markEngineMS :=
  msound_of_den (E := { tt := tt, fs := [], ms := [markNotebookMS, markWorldMS, markTapeSMS, markEntrySMS] }) (.consM markNotebook_callable markNotebook_msound (.consM markWorld_callable markWorld_msound (.consM markTapeS_callable markTapeS_msound (.consM markEntryS_callable markEntryS_msound (.nil tt_ok))))) [] (fn := Tryz.f13) (by kernel_rfl) fun x n => markEngine_den x n
theorem markEditS_callable : callable Tryz.prog 14 = true := by kernel_rfl
theorem markEditS_den (a : List GEdit) (b : Int) : denMF { tt := tt, fs := [markTextFS] } [(2, { n := 77, ty := .base .edit, si := 5, sk := 1 })] Tryz.f14 markEditSMS.sh a b = markEditS a b := by kernel_rfl
theorem markEditS_msound : MSound Tryz.prog markEditSMS :=
  msound_of_den (E := { tt := tt, fs := [markTextFS] }) (.cons markText_callable markText_sound (.nil tt_ok)) [(2, { n := 77, ty := .base .edit, si := 5, sk := 1 })] (fn := Tryz.f14) (by kernel_rfl) fun x n => markEditS_den x n
theorem heldCellS_callable : callable Tryz.prog 107 = true := by kernel_rfl
theorem heldCellS_den (a : List GCell) (b : Int) : denF { tt := tt, fs := [markTextFS] } [(2, { n := 69, its := [.t 0 (.ro (.list (.base .cell))), .t 1 (.ro (.base .int)), .t 5 (.ro (.base .int))], boxes := [], ptrs := [] })] Tryz.f107 heldCellSFS.ps heldCellSFS.rs heldCellSFS.ex (a, b) = heldCellS a b := by kernel_rfl
theorem heldCellS_sound : Sound Tryz.prog heldCellSFS :=
  sound_of_den (E := { tt := tt, fs := [markTextFS] }) (.cons markText_callable markText_sound (.nil tt_ok)) mixed_ok [(2, { n := 69, its := [.t 0 (.ro (.list (.base .cell))), .t 1 (.ro (.base .int)), .t 5 (.ro (.base .int))], boxes := [], ptrs := [] })] (fn := Tryz.f107) (by kernel_rfl) fun x => heldCellS_den x.1 x.2
theorem heldNotebook_callable : callable Tryz.prog 52 = true := by kernel_rfl
theorem heldNotebook_den (a : GNotebook) (b : Int) : denF { tt := tt, fs := [heldCellSFS] } [] Tryz.f52 heldNotebookFS.ps heldNotebookFS.rs heldNotebookFS.ex (a, b) = heldNotebook a b := by kernel_rfl
theorem heldNotebook_sound : Sound Tryz.prog heldNotebookFS :=
  sound_of_den (E := { tt := tt, fs := [heldCellSFS] }) (.cons heldCellS_callable heldCellS_sound (.nil tt_ok)) mixed_ok [] (fn := Tryz.f52) (by kernel_rfl) fun x => heldNotebook_den x.1 x.2
theorem heldFileS_callable : callable Tryz.prog 108 = true := by kernel_rfl
theorem heldFileS_den (a : List GFile) (b : Int) : denF { tt := tt, fs := [markTextFS] } [(2, { n := 32, its := [.t 0 (.ro (.list (.base .file))), .t 1 (.ro (.base .int)), .t 5 (.ro (.base .int))], boxes := [], ptrs := [] })] Tryz.f108 heldFileSFS.ps heldFileSFS.rs heldFileSFS.ex (a, b) = heldFileS a b := by kernel_rfl
theorem heldFileS_sound : Sound Tryz.prog heldFileSFS :=
  sound_of_den (E := { tt := tt, fs := [markTextFS] }) (.cons markText_callable markText_sound (.nil tt_ok)) mixed_ok [(2, { n := 32, its := [.t 0 (.ro (.list (.base .file))), .t 1 (.ro (.base .int)), .t 5 (.ro (.base .int))], boxes := [], ptrs := [] })] (fn := Tryz.f108) (by kernel_rfl) fun x => heldFileS_den x.1 x.2
theorem heldWorld_callable : callable Tryz.prog 53 = true := by kernel_rfl
theorem heldWorld_den (a : GWorld) (b : Int) : denF { tt := tt, fs := [heldFileSFS] } [] Tryz.f53 heldWorldFS.ps heldWorldFS.rs heldWorldFS.ex (a, b) = heldWorld a b := by kernel_rfl
theorem heldWorld_sound : Sound Tryz.prog heldWorldFS :=
  sound_of_den (E := { tt := tt, fs := [heldFileSFS] }) (.cons heldFileS_callable heldFileS_sound (.nil tt_ok)) mixed_ok [] (fn := Tryz.f53) (by kernel_rfl) fun x => heldWorld_den x.1 x.2
theorem heldStringS_callable : callable Tryz.prog 112 = true := by kernel_rfl
theorem heldStringS_den (a : List Str) (b : Int) : denF { tt := tt, fs := [markTextFS] } [(2, { n := 22, its := [.t 0 (.ro (.list (.base .str))), .t 1 (.ro (.base .int)), .t 5 (.ro (.base .int))], boxes := [], ptrs := [] })] Tryz.f112 heldStringSFS.ps heldStringSFS.rs heldStringSFS.ex (a, b) = heldStringS a b := by kernel_rfl
theorem heldStringS_sound : Sound Tryz.prog heldStringSFS :=
  sound_of_den (E := { tt := tt, fs := [markTextFS] }) (.cons markText_callable markText_sound (.nil tt_ok)) mixed_ok [(2, { n := 22, its := [.t 0 (.ro (.list (.base .str))), .t 1 (.ro (.base .int)), .t 5 (.ro (.base .int))], boxes := [], ptrs := [] })] (fn := Tryz.f112) (by kernel_rfl) fun x => heldStringS_den x.1 x.2
theorem heldIntS_callable : callable Tryz.prog 110 = true := by kernel_rfl
theorem heldIntS_den (a : List Int) (b : Int) : denF { tt := tt, fs := [] } [(2, { n := 21, its := [.t 0 (.ro (.list (.base .int))), .t 1 (.ro (.base .int)), .t 5 (.ro (.base .int))], boxes := [], ptrs := [] })] Tryz.f110 heldIntSFS.ps heldIntSFS.rs heldIntSFS.ex (a, b) = heldIntS a b := by kernel_rfl
theorem heldIntS_sound : Sound Tryz.prog heldIntSFS :=
  sound_of_den (E := { tt := tt, fs := [] }) (.nil tt_ok) mixed_ok [(2, { n := 21, its := [.t 0 (.ro (.list (.base .int))), .t 1 (.ro (.base .int)), .t 5 (.ro (.base .int))], boxes := [], ptrs := [] })] (fn := Tryz.f110) (by kernel_rfl) fun x => heldIntS_den x.1 x.2
theorem heldOriginS_callable : callable Tryz.prog 154 = true := by kernel_rfl
theorem heldOriginS_den (a : List GOrigin) (b : Int) : denF { tt := tt, fs := [] } [(2, { n := 31, its := [.t 0 (.ro (.list (.base .origin))), .t 1 (.ro (.base .int)), .t 5 (.ro (.base .int))], boxes := [], ptrs := [] })] Tryz.f154 heldOriginSFS.ps heldOriginSFS.rs heldOriginSFS.ex (a, b) = heldOriginS a b := by kernel_rfl
theorem heldOriginS_sound : Sound Tryz.prog heldOriginSFS :=
  sound_of_den (E := { tt := tt, fs := [] }) (.nil tt_ok) mixed_ok [(2, { n := 31, its := [.t 0 (.ro (.list (.base .origin))), .t 1 (.ro (.base .int)), .t 5 (.ro (.base .int))], boxes := [], ptrs := [] })] (fn := Tryz.f154) (by kernel_rfl) fun x => heldOriginS_den x.1 x.2
theorem heldRowS_callable : callable Tryz.prog 113 = true := by kernel_rfl
theorem heldRowS_den (a : List GRow) (b : Int) : denF { tt := tt, fs := [heldIntSFS, heldOriginSFS] } [(2, { n := 31, its := [.t 0 (.ro (.list (.base .row))), .t 1 (.ro (.base .int)), .t 5 (.ro (.base .int))], boxes := [], ptrs := [] })] Tryz.f113 heldRowSFS.ps heldRowSFS.rs heldRowSFS.ex (a, b) = heldRowS a b := by kernel_rfl
theorem heldRowS_sound : Sound Tryz.prog heldRowSFS :=
  sound_of_den (E := { tt := tt, fs := [heldIntSFS, heldOriginSFS] }) (.cons heldIntS_callable heldIntS_sound (.cons heldOriginS_callable heldOriginS_sound (.nil tt_ok))) mixed_ok [(2, { n := 31, its := [.t 0 (.ro (.list (.base .row))), .t 1 (.ro (.base .int)), .t 5 (.ro (.base .int))], boxes := [], ptrs := [] })] (fn := Tryz.f113) (by kernel_rfl) fun x => heldRowS_den x.1 x.2
theorem heldValueS_callable : callable Tryz.prog 111 = true := by kernel_rfl
theorem heldValueS_den (rheldValueS : (List GVal) → Int → Option (Int)) (a : List GVal) (b : Int) : denF { tt := tt, fs := [markTextFS, heldStringSFS, heldRowSFS, { fid := 111, ps := [⟨false, .list (.base .val)⟩, ⟨false, .base .int⟩], rs := [⟨false, .base .int⟩], ex := true, fn := fun x => rheldValueS x.1 x.2 }] } [(2, { n := 77, its := [.t 0 (.ro (.list (.base .val))), .t 1 (.ro (.base .int)), .t 5 (.ro (.base .int))], boxes := [], ptrs := [] })] Tryz.f111 heldValueSFS.ps heldValueSFS.rs heldValueSFS.ex (a, b) = heldValueSB rheldValueS a b := by kernel_rfl
theorem heldValueSG_sound : ∀ n, Sound Tryz.prog (heldValueSFSN n)
  | 0 => (fun w S args x y h => by cases h)
  | n + 1 => by
    have ih := heldValueSG_sound n
    exact sound_of_den (s := heldValueSFSN (n + 1)) (E := { tt := tt, fs := [markTextFS, heldStringSFS, heldRowSFS, heldValueSFSN n] }) (.cons markText_callable markText_sound (.cons heldStringS_callable heldStringS_sound (.cons heldRowS_callable heldRowS_sound (.cons heldValueS_callable ih (.nil tt_ok))))) mixed_ok [(2, { n := 77, its := [.t 0 (.ro (.list (.base .val))), .t 1 (.ro (.base .int)), .t 5 (.ro (.base .int))], boxes := [], ptrs := [] })] (fn := Tryz.f111) (by kernel_rfl) fun x => heldValueS_den _ x.1 x.2
theorem heldValueS_sound : Sound Tryz.prog heldValueSFS := fun w S args x y h => (heldValueSG_sound (siz (α := List GVal) x.1 + 1)) w S args x y h
theorem heldReadS_callable : callable Tryz.prog 109 = true := by kernel_rfl
theorem heldReadS_den (a : List GRead) (b : Int) : denF { tt := tt, fs := [markTextFS, heldValueSFS, heldStringSFS, heldRowSFS] } [(2, { n := 121, its := [.t 0 (.ro (.list (.base .read))), .t 1 (.ro (.base .int)), .t 5 (.ro (.base .int))], boxes := [], ptrs := [] })] Tryz.f109 heldReadSFS.ps heldReadSFS.rs heldReadSFS.ex (a, b) = heldReadS a b := by kernel_rfl
theorem heldReadS_sound : Sound Tryz.prog heldReadSFS :=
  sound_of_den (E := { tt := tt, fs := [markTextFS, heldValueSFS, heldStringSFS, heldRowSFS] }) (.cons markText_callable markText_sound (.cons heldValueS_callable heldValueS_sound (.cons heldStringS_callable heldStringS_sound (.cons heldRowS_callable heldRowS_sound (.nil tt_ok))))) mixed_ok [(2, { n := 121, its := [.t 0 (.ro (.list (.base .read))), .t 1 (.ro (.base .int)), .t 5 (.ro (.base .int))], boxes := [], ptrs := [] })] (fn := Tryz.f109) (by kernel_rfl) fun x => heldReadS_den x.1 x.2
theorem heldTapeS_callable : callable Tryz.prog 54 = true := by kernel_rfl
theorem heldTapeS_den (a : List GTape) (b : Int) : denF { tt := tt, fs := [heldReadSFS] } [(2, { n := 40, its := [.t 0 (.ro (.list (.base .tape))), .t 1 (.ro (.base .int)), .t 5 (.ro (.base .int))], boxes := [], ptrs := [] })] Tryz.f54 heldTapeSFS.ps heldTapeSFS.rs heldTapeSFS.ex (a, b) = heldTapeS a b := by kernel_rfl
theorem heldTapeS_sound : Sound Tryz.prog heldTapeSFS :=
  sound_of_den (E := { tt := tt, fs := [heldReadSFS] }) (.cons heldReadS_callable heldReadS_sound (.nil tt_ok)) mixed_ok [(2, { n := 40, its := [.t 0 (.ro (.list (.base .tape))), .t 1 (.ro (.base .int)), .t 5 (.ro (.base .int))], boxes := [], ptrs := [] })] (fn := Tryz.f54) (by kernel_rfl) fun x => heldTapeS_den x.1 x.2
theorem heldEntryS_callable : callable Tryz.prog 55 = true := by kernel_rfl
theorem heldEntryS_den (a : List GEntry) (b : Int) : denF { tt := tt, fs := [markTextFS, heldIntSFS, heldValueSFS, heldStringSFS, heldRowSFS] } [(2, { n := 131, its := [.t 0 (.ro (.list (.base .entry))), .t 1 (.ro (.base .int)), .t 5 (.ro (.base .int))], boxes := [], ptrs := [] })] Tryz.f55 heldEntrySFS.ps heldEntrySFS.rs heldEntrySFS.ex (a, b) = heldEntryS a b := by kernel_rfl
theorem heldEntryS_sound : Sound Tryz.prog heldEntrySFS :=
  sound_of_den (E := { tt := tt, fs := [markTextFS, heldIntSFS, heldValueSFS, heldStringSFS, heldRowSFS] }) (.cons markText_callable markText_sound (.cons heldIntS_callable heldIntS_sound (.cons heldValueS_callable heldValueS_sound (.cons heldStringS_callable heldStringS_sound (.cons heldRowS_callable heldRowS_sound (.nil tt_ok)))))) mixed_ok [(2, { n := 131, its := [.t 0 (.ro (.list (.base .entry))), .t 1 (.ro (.base .int)), .t 5 (.ro (.base .int))], boxes := [], ptrs := [] })] (fn := Tryz.f55) (by kernel_rfl) fun x => heldEntryS_den x.1 x.2
theorem heldEngine_callable : callable Tryz.prog 15 = true := by kernel_rfl
theorem heldEngine_den (a : GEngine) (b : Int) : denF { tt := tt, fs := [heldNotebookFS, heldWorldFS, heldTapeSFS, heldEntrySFS] } [] Tryz.f15 heldEngineFS.ps heldEngineFS.rs heldEngineFS.ex (a, b) = heldEngine a b := by kernel_rfl
theorem heldEngine_sound : Sound Tryz.prog heldEngineFS :=
  sound_of_den (E := { tt := tt, fs := [heldNotebookFS, heldWorldFS, heldTapeSFS, heldEntrySFS] }) (.cons heldNotebook_callable heldNotebook_sound (.cons heldWorld_callable heldWorld_sound (.cons heldTapeS_callable heldTapeS_sound (.cons heldEntryS_callable heldEntryS_sound (.nil tt_ok))))) mixed_ok [] (fn := Tryz.f15) (by kernel_rfl) fun x => heldEngine_den x.1 x.2
theorem FnExactBatchEngine_callable : callable Tryz.prog 3 = true := by kernel_rfl
theorem FnExactBatchEngine_den (a : GEngine) (b : List GEdit) : denF { tt := tt, fs := [szEngineFS, szEditSFS, sBatchEngineFS, toEngineFS, toEditSFS, iBatchEngineFS, eqEngineFS, eqEditSFS, heldEngineFS], ms := [markEngineMS, markEditSMS], trees := true } [] Tryz.f3 FnExactBatchEngineFS.ps FnExactBatchEngineFS.rs FnExactBatchEngineFS.ex (a, b) = FnExactBatchEngine a b := by kernel_rfl
theorem FnExactBatchEngine_sound : Sound Tryz.prog FnExactBatchEngineFS :=
  sound_of_den (E := { tt := tt, fs := [szEngineFS, szEditSFS, sBatchEngineFS, toEngineFS, toEditSFS, iBatchEngineFS, eqEngineFS, eqEditSFS, heldEngineFS], ms := [markEngineMS, markEditSMS], trees := true }) (.cons szEngine_callable szEngine_sound (.cons szEditS_callable szEditS_sound (.cons sBatchEngine_callable sBatchEngine_sound (.cons toEngine_callable toEngine_sound (.cons toEditS_callable toEditS_sound (.cons iBatchEngine_callable iBatchEngine_sound (.cons eqEngine_callable eqEngine_sound (.cons eqEditS_callable eqEditS_sound (.cons heldEngine_callable heldEngine_sound (.consM markEngine_callable markEngine_msound (.consM markEditS_callable markEditS_msound (.nil tt_ok)))))))))))) mixed_ok [] (fn := Tryz.f3) (by kernel_rfl) fun x => FnExactBatchEngine_den x.1 x.2
end Go.Proofs.YtopcobafmnpmkaaGreat
