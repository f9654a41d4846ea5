import Derived.Test.YtgfjbogcidlaeaaGreatDoorHandL
/- The functions compute their models, by gen.py. -/
namespace Go.Proofs.YtgfjbogcidlaeaaGreatDoor
noncomputable section
open Go.Abs Go.Proofs
set_option maxRecDepth 100000
def kk1 := kk0.f (s := Yv) (snd kk0 [] Tryz.f34)
def kk2 := kk1.f (s := WT) (snd kk1 [(5, .c 27 [.t 0 (roL .cell), .t 1 roI, .t 5 roI] [] [])] Tryz.f16)
def kk3 := kk2.f (s := Ob) (snd kk2 [] Tryz.f5)
def kk4 := kk3.f (s := aaY) (snd kk3 [] Tryz.f63)
def kk5 := kk4.f (s := H9) (snd kk4 [(2, .c 23 [.t 0 roS, .t 3 roI] [] [])] Tryz.f64)
def kk6 := kk5.f (s := Ug) (snd kk5 [(2, .c 45 [.t 0 roS, .t 3 roI] [] [])] Tryz.f99)
def kk7 := kk6.f (s := YQ) (snd kk6 [(2, .c 18 [.t 0 (roL .str), .t 1 roS, .t 5 roI] [] [])] Tryz.f138)
def kk8 := kk7.f (s := KA) (snd kk7 [] Tryz.f139)
def kk9 := kk8.f (s := KG) (snd kk8 [] Tryz.f100)
def kk10 := kk9.f (s := H6) (snd kk9 [] Tryz.f65)
def kk11 := kk10.f (s := H8) (snd kk10 [] Tryz.f38)
def kk12 := kk11.f (s := OI) (snd kk11 [(2, .c 22 [.t 1 roI, .b 2 0 (roL .cell), .t 5 roI] [(2, 1)] [(2, 2, 0)])] Tryz.f39)
def kk13 := kk12.f (s := zy) (snd kk12 [(2, .c 34 [.b 1 0 (roL .cell), .t 3 roI] [(1, 1)] [(1, 1, 0)])] Tryz.f19)
def kk14 := kk13.f (s := OG) (snd kk13 [(5, .c 31 [.t 0 roI, .t 3 (roE .bool), .t 4 roS] [] [])] Tryz.f29)
def kk15 := kk14.f (s := Xj) (snd kk14 [(9, .c 63 [.t 0 roS, .t 6 (roE .bool), .t 7 roS, .t 8 roI, .t 9 roI] [] [])] Tryz.f180)
def kk16 := kk15.f (s := Qw) (snd kk15 [] Tryz.f130)
def kk17 := kk16.f (s := HY) (snd kk16 [(2, .c 29 [.t 0 roS, .t 3 roI] [] [])] Tryz.f132)
def kk18 := kk17.f (s := QA) (snd kk17 [] Tryz.f171)
def kk19 := kk18.f (s := Ue) (snd kk18 [] Tryz.f172)
def kk20 := kk19.f (s := Qz) (snd kk19 [] Tryz.f173)
def kk21 := kk20.f (s := Xf) (snd kk20 [(7, .c 136 [.t 0 roS, .t 1 roI, .b 4 0 roI, .b 4 1 roI, .b 4 2 roI, .b 4 3 roS, .b 6 0 roI, .b 6 1 roI, .b 6 2 roI, .b 6 3 roS, .t 7 roI] [(4, 4), (6, 4)] [(4, 4, 0), (6, 6, 0)]), (14, .c 136 [.t 0 roS, .t 1 roI, .b 4 0 roI, .b 4 1 roI, .b 4 2 roI, .b 4 3 roS, .b 6 0 roI, .b 6 1 roI, .b 6 2 roI, .b 6 3 roS, .t 7 roI] [(4, 4), (6, 4)] [(4, 4, 0), (6, 6, 0)]), (23, .c 136 [.t 0 roS, .t 1 roI, .b 4 0 roI, .b 4 1 roI, .b 4 2 roI, .b 4 3 roS, .b 6 0 roI, .b 6 1 roI, .b 6 2 roI, .b 6 3 roS, .t 7 roI] [(4, 4), (6, 4)] [(4, 4, 0), (6, 6, 0)])] Tryz.f122)
def kk22 := kk21.f (s := Qu) (snd kk21 [(5, .c 46 [.t 0 roS, .t 4 (owE .token 0), .t 5 roI] [] [])] Tryz.f87)
def kk23 := kk22.f (s := QM) (snd kk22 [] Tryz.f174)
def kk24 := kk23.f (s := OD) (snd kk23 [] Tryz.f175)
def kk25 := kk24.b (s := Uk) (bnd kk24 [] Tryz.f123)
def kk26 := kk25.b (s := Um) (bnd kk25 [] Tryz.f89)
def kk27 := kk26.b (s := Ul) (bnd kk26 [] Tryz.f124)
def kk28 := kk27.b (s := Uj) (bnd kk27 [] Tryz.f125)
def kk29 := kk28.s (s := YT) (ssd kk28 [] Tryz.f177)
def kk30 := kk29.f (s := Dq) (snd kk29 [] Tryz.f207)
def kk31 := kk30.f (s := Xm) (snd kk30 [] Tryz.f258)
def UW := kk31.f (s := Ut) (snd kk31 [] Tryz.f259)
theorem fE : ∀ n, eP Tryz.prog (Ey n) /\ eP Tryz.prog (wE n) /\ eP Tryz.prog (Hg n) /\ eP Tryz.prog (wB n) /\ eP Tryz.prog (Ez n) /\ eP Tryz.prog (EC n)
 | 0 => ⟨(fun w S bb vs Et args x y h => by cases h), (fun w S bb vs Et args x y h => by cases h), (fun w S bb vs Et args x y h => by cases h), (fun w S bb vs Et args x y h => by cases h), (fun w S bb vs Et args x y h => by cases h), (fun w S bb vs Et args x y h => by cases h)⟩
 | n + 1 =>
  have ih := fE n
  ⟨bnd (s := Ey (n + 1)) ((((((UW.b ih.1).b ih.2.1).b ih.2.2.1).b ih.2.2.2.1).b ih.2.2.2.2.1).b ih.2.2.2.2.2) [] Tryz.f88,
  bnd (s := wE (n + 1)) ((((((UW.b ih.1).b ih.2.1).b ih.2.2.1).b ih.2.2.2.1).b ih.2.2.2.2.1).b ih.2.2.2.2.2) [] Tryz.f126,
  bnd (s := Hg (n + 1)) ((((((UW.b ih.1).b ih.2.1).b ih.2.2.1).b ih.2.2.2.1).b ih.2.2.2.2.1).b ih.2.2.2.2.2) [(2, .c 29 [.b 0 0 (roL .token), .b 0 1 roI, .b 0 2 roI, .b 0 3 roI, .b 2 0 roI, .b 2 1 roI, .b 2 2 roS, .b 2 3 (owE .expr 0), .b 3 0 roI, .b 3 1 roI, .b 3 2 roS, .b 3 3 (roL .expr)] [(0, 4), (2, 4), (3, 4)] [(0, 0, 0), (2, 2, 0), (3, 3, 0)])] Tryz.f176,
  bnd (s := wB (n + 1)) ((((((UW.b ih.1).b ih.2.1).b ih.2.2.1).b ih.2.2.2.1).b ih.2.2.2.2.1).b ih.2.2.2.2.2) [(2, .c 21 [.b 0 0 (roL .token), .b 0 1 roI, .b 0 2 roI, .b 0 3 roI, .b 2 0 roI, .b 2 1 roI, .b 2 2 roS, .b 2 3 (owE .expr 0), .b 3 0 roI, .b 3 1 roI, .b 3 2 roS, .b 3 3 (roL .expr)] [(0, 4), (2, 4), (3, 4)] [(0, 0, 0), (2, 2, 0), (3, 3, 0)])] Tryz.f206,
  bnd (s := Ez (n + 1)) ((((((UW.b ih.1).b ih.2.1).b ih.2.2.1).b ih.2.2.2.1).b ih.2.2.2.2.1).b ih.2.2.2.2.2) [] Tryz.f231,
  bnd (s := EC (n + 1)) ((((((UW.b ih.1).b ih.2.1).b ih.2.2.1).b ih.2.2.2.1).b ih.2.2.2.2.1).b ih.2.2.2.2.2) [(5, .c 44 [.b 0 0 (roL .token), .b 0 1 roI, .b 0 2 roI, .b 0 3 roI, .t 1 roS, .t 5 (.own (.base .expr) false true 0)] [(0, 4)] [(0, 0, 0)])] Tryz.f260⟩
theorem Ho : eP Tryz.prog Un := fun w S bb vs Et args x y h => (fE (siz (α := GRd) x + 1)).1 w S bb vs Et args x y h
def kk33 := UW.b Ho
theorem Bf : eP Tryz.prog KE := fun w S bb vs Et args x y h => (fE (siz (α := GRd) x + 1)).2.1 w S bb vs Et args x y h
def kk34 := kk33.b Bf
theorem KC : eP Tryz.prog Xl := fun w S bb vs Et args x y h => (fE (siz (α := GRd) x + 1)).2.2.1 w S bb vs Et args x y h
def kk35 := kk34.b KC
theorem Be : eP Tryz.prog KD := fun w S bb vs Et args x y h => (fE (siz (α := GRd) x + 1)).2.2.2.1 w S bb vs Et args x y h
def kk36 := kk35.b Be
theorem Hr : eP Tryz.prog Uo := fun w S bb vs Et args x y h => (fE (siz (α := GRd) x + 1)).2.2.2.2.1 w S bb vs Et args x y h
def kk37 := kk36.b Hr
theorem Ht : eP Tryz.prog Ur := fun w S bb vs Et args x y h => (fE (siz (α := GRd) x.1 + 1)).2.2.2.2.2 w S bb vs Et args x y h
def kk38 := kk37.b Ht
theorem uX : ∀ n, Sound Tryz.prog (ED n)
 | 0 => (fun w S args x y h => by cases h)
 | n + 1 =>
  have ih := uX n
  snd (s := ED (n + 1)) (kk38.f ih) [(3, .c 27 [.t 1 roI, .b 2 0 roI, .b 2 1 roI, .b 2 2 roS, .b 2 3 (roL .expr), .t 5 roI] [(2, 4)] [(2, 2, 0)])] Tryz.f127
theorem Hw : Sound Tryz.prog Uu := fun w S args x y h => (uX (siz (α := af) x.1 + 1)) w S args x y h
def kk39 := kk38.f Hw
def kk40 := kk39.f (s := YP) (snd kk39 [] Tryz.f178)
theorem qc : ∀ n, Sound Tryz.prog (yM n)
 | 0 => (fun w S args x y h => by cases h)
 | n + 1 =>
  have ih := qc n
  snd (s := yM (n + 1)) (kk40.f ih) [(3, .c 22 [.b 1 0 roI, .b 1 1 roI, .b 1 2 roS, .b 1 3 (roL .expr), .t 3 roI, .t 4 roI] [(1, 4)] [(1, 1, 0)])] Tryz.f128
theorem Dk : Sound Tryz.prog Ov := fun w S args x y h => (qc (siz (α := af) x + 1)) w S args x y h
def kk41 := kk40.f Dk
def kk42 := kk41.f (s := Us) (snd kk41 [] Tryz.f179)
theorem wF : ∀ n, Sound Tryz.prog (Hz n)
 | 0 => (fun w S args x y h => by cases h)
 | n + 1 =>
  have ih := wF n
  snd (s := Hz (n + 1)) (kk42.f ih) [(2, .c 20 [.b 1 0 roI, .b 1 1 roI, .b 1 2 roS, .b 1 3 (roL .expr), .t 3 roI] [(1, 4)] [(1, 1, 0)])] Tryz.f129
theorem KF : Sound Tryz.prog Xn := fun w S args x y h => (wF (siz (α := af) x + 1)) w S args x y h
def kk43 := kk42.f KF
def kk44 := kk43.f (s := H7) (snd kk43 [] Tryz.f90)
def kk45 := kk44.f (s := Ot) (snd kk44 [] Tryz.f56)
def kk46 := kk45.f (s := KH) (snd kk45 [] Tryz.f57)
def kk47 := kk46.f (s := GZ) (snd kk46 [] Tryz.f58)
def kk48 := kk47.f (s := QJ) (snd kk47 [(4, .c 40 [.t 0 roS, .t 3 (owE .str 0), .t 4 roI, .t 5 roI] [] [])] Tryz.f91)
def kk49 := kk48.f (s := Oo) (snd kk48 [(4, .c 36 [.t 0 roS, .t 1 (roE .u8), .t 5 (owE .str 0), .t 6 roI, .t 7 roI] [] [])] Tryz.f92)
def kk50 := kk49.f (s := QB) (snd kk49 [] Tryz.f131)
def kk51 := kk50.f (s := Xk) (snd kk50 [(4, .c 45 [.t 1 roI, .t 6 (owE .int 0), .t 7 (owE .str 1), .t 8 roI] [] [])] Tryz.f93)
def kk52 := kk51.f (s := Ic) (snd kk51 [(2, .c 18 [.t 0 (roL .str), .t 3 roI] [] [])] Tryz.f135)
def kk53 := kk52.f (s := Oz) (snd kk52 [(2, .c 23 [.t 0 (roL .str), .t 3 roI] [] [])] Tryz.f95)
def kk54 := kk53.f (s := QC) (snd kk53 [] Tryz.f208)
def kk55 := kk54.f (s := G7) (snd kk54 [(2, .c 41 [.t 0 (roL .origin), .t 3 roI] [] [])] Tryz.f183)
def abx := kk55.f (s := Uf) (snd kk55 [(10, .c 55 [.b 1 0 roI, .b 1 1 roI, .b 1 2 roI, .b 1 3 roS, .b 1 4 (roL .val), .b 1 5 (roL .str), .b 1 6 (roL .row), .t 3 roI, .b 4 0 (roL .int), .b 4 1 (roL .origin), .t 5 roI] [(1, 7), (4, 2)] [(1, 1, 0), (4, 4, 0)]), (4, .c 55 [.b 1 0 roI, .b 1 1 roI, .b 1 2 roI, .b 1 3 roS, .b 1 4 (roL .val), .b 1 5 (roL .str), .b 1 6 (roL .row), .t 3 roI] [(1, 7)] [(1, 1, 0)])] Tryz.f134)
theorem Bg (n : Int) (step : Int) (text : Str) (columns : List Str) (rows : List bQ) : Vl abx.1 [] Tryz.f94 fF.ps fF.rs fF.ex (⟨5, n, step, text, [], columns, rows⟩ : bg) = iH ⟨5, n, step, text, [], columns, rows⟩ := by kernel_rfl
theorem yH : Sound Tryz.prog fF :=
 Sound.weaken (f := fun x => Vl abx.1 [] Tryz.f94 fF.ps fF.rs fF.ex x) (tu abx.2 pq [] (fn := Tryz.f94) (by kernel_rfl) fun x => rfl) fun x y h => by
  obtain ⟨kind, n, step, text, list, columns, rows⟩ := x
  cases hk : ((kind == 5) && list.isEmpty) with
  | false =>
   have h : (bif ((kind == 5) && list.isEmpty) then iH ⟨kind, n, step, text, list, columns, rows⟩ else none) = some y := h
   rw [hk] at h; cases h
  | true =>
   have h : (bif ((kind == 5) && list.isEmpty) then iH ⟨kind, n, step, text, list, columns, rows⟩ else none) = some y := h
   rw [hk] at h
   simp only [zI, beq_iff_eq, List.isEmpty_iff] at hk
   obtain ⟨h_kind, h_list⟩ := hk
   subst kind list
   exact (Bg n step text columns rows).trans h
def kk57 := abx.f yH
def kk58 := kk57.f (s := Ou) (snd kk57 [(4, .c 48 [.b 2 0 roI, .b 2 1 roI, .b 2 2 roI, .b 2 3 roS, .b 2 4 (owE .val 0), .b 2 5 (owE .str 1), .b 2 6 (owE .row 3), .t 4 (owE .str 4), .b 5 0 roI, .b 5 1 roI, .b 5 2 roI, .b 5 3 roS, .b 5 4 (owE .val 6), .b 5 5 (owE .str 7), .b 5 6 (owE .row 8), .t 6 roI] [(2, 7), (5, 7)] [(2, 2, 0), (5, 5, 0)])] Tryz.f59)
def kk59 := kk58.f (s := OH) (snd kk58 [(6, .c 40 [.t 3 (owE .str 0), .t 4 (owE .str 1), .t 5 roI] [] [])] Tryz.f60)
def kk60 := kk59.f (s := YO) (snd kk59 [] Tryz.f136)
theorem wz : ∀ n, Sound Tryz.prog (G5 n)
 | 0 => (fun w S args x y h => by cases h)
 | n + 1 =>
  have ih := wz n
  snd (s := G5 (n + 1)) (kk60.f ih) [(7, .c 56 [.b 1 0 roI, .b 1 1 roI, .b 1 2 roI, .b 1 3 roS, .b 1 4 (roL .val), .b 1 5 (roL .str), .b 1 6 (roL .row), .b 2 0 roI, .b 2 1 roI, .b 2 2 roI, .b 2 3 roS, .b 2 4 (owE .val 0), .b 2 5 (owE .str 4), .b 2 6 (owE .row 5), .b 3 0 roI, .b 3 1 roI, .b 3 2 roI, .b 3 3 roS, .b 3 4 (owE .val 6), .b 3 5 (owE .str 7), .b 3 6 (owE .row 8), .t 5 roI] [(1, 7), (2, 7), (3, 7)] [(1, 1, 0), (2, 2, 0), (3, 3, 0)]), (3, .c 56 [.b 1 0 roI, .b 1 1 roI, .b 1 2 roI, .b 1 3 roS, .b 1 4 (roL .val), .b 1 5 (roL .str), .b 1 6 (roL .row), .b 2 0 roI, .b 2 1 roI, .b 2 2 roI, .b 2 3 roS, .b 2 4 (owE .val 0), .b 2 5 (owE .str 4), .b 2 6 (owE .row 5), .b 3 0 roI, .b 3 1 roI, .b 3 2 roI, .b 3 3 roS, .b 3 4 (owE .val 6), .b 3 5 (owE .str 7), .b 3 6 (owE .row 8), .t 4 roI] [(1, 7), (2, 7), (3, 7)] [(1, 1, 0), (2, 2, 0), (3, 3, 0)])] Tryz.f96
theorem Kz : Sound Tryz.prog Xg := fun w S args x y h => (wz (siz (α := bg) x + 1)) w S args x y h
def kk61 := kk60.f Kz
def kk62 := kk61.f (s := GX) (snd kk61 [(5, .c 39 [.t 0 roI, .b 4 0 roI, .b 4 1 roI, .b 4 2 roI, .b 4 3 roS, .b 4 4 (owE .val 0), .b 4 5 (owE .str 1), .b 4 6 (owE .row 2), .b 5 0 roI, .b 5 1 roI, .b 5 2 roI, .b 5 3 roS, .b 5 4 (owE .val 6), .b 5 5 (owE .str 7), .b 5 6 (owE .row 8), .t 6 roI] [(4, 7), (5, 7)] [(4, 4, 0), (5, 5, 0)])] Tryz.f61)
def kk63 := kk62.f (s := Ib) (snd kk62 [] Tryz.f35)
def kk64 := kk63.s (s := KJ) (ssd kk63 [(5, .c 27 [.b 1 0 (roL .cell), .t 3 (.own (.base .part) false true 0), .t 4 roI] [(1, 1)] [(1, 1, 0)])] Tryz.f17)
def kk65 := kk64.f (s := QI) (snd kk64 [(2, .c 18 [.t 0 (roL .int), .t 1 roI, .t 5 roI] [] [])] Tryz.f36)
end
end Go.Proofs.YtgfjbogcidlaeaaGreatDoor
