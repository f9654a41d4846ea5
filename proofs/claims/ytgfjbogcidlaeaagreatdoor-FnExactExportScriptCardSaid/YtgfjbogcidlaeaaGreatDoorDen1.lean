import Derived.Test.YtgfjbogcidlaeaaGreatDoorDen0
/- The functions compute their models, by gen.py. -/
namespace Go.Proofs.YtgfjbogcidlaeaaGreatDoor
noncomputable section
open Go.Abs Go.Proofs
set_option maxRecDepth 100000
def kk66 := kk65.f (s := Xh) (snd kk65 [(7, .c 55 [.t 0 (roL .int), .t 3 (owE .int 0), .t 4 roI, .t 5 roI] [] []), (3, .c 55 [.t 0 (roL .int), .t 3 (owE .int 0), .t 4 roI] [] [])] Tryz.f98)
def kk67 := kk66.f (s := Oq) (snd (kk66.XA [49, 53]) [(6, .c 63 [.t 0 (roL .str), .t 3 (owE .str 0), .t 4 roI, .t 5 roI] [] []), (3, .c 63 [.t 0 (roL .str), .t 3 (owE .str 0), .t 4 roI] [] [])] Tryz.f67)
theorem uV : ∀ n, Sound Tryz.prog (Eu n)
 | 0 => (fun w S args x y h => by cases h)
 | n + 1 =>
  have ih := uV n
  snd (s := Eu (n + 1)) (kk67.f ih) [(5, .c 61 [.t 1 (roL .str), .b 2 0 roI, .b 2 1 roI, .b 2 2 roS, .b 2 3 (roL .expr), .t 5 (owE .str 0), .t 6 roI] [(2, 4)] [(2, 2, 0)])] Tryz.f200
theorem He : Sound Tryz.prog Ui := fun w S args x y h => (uV (siz (α := af) x.1 + siz (α := List Str) x.2 + 1)) w S args x y h
def kk68 := kk67.f He
def kk69 := kk68.f (s := OE) (snd kk68 [] Tryz.f166)
def kk70 := kk69.f (s := W9) (snd kk69 [] Tryz.f119)
def kk71 := kk70.f (s := QN) (snd kk70 [(3, .c 34 [.t 0 (roL .part), .t 1 roS, .t 5 (owE .int 0), .t 6 roI] [] [])] Tryz.f66)
def kk72 := kk71.f (s := TY) (snd kk71 [] Tryz.f120)
def kk73 := kk72.f (s := KI) (snd kk72 [(6, .c 42 [.t 0 (roL .part), .t 5 (owE .int 0), .t 6 (owE .str 1), .t 7 roI] [] [])] Tryz.f82)
def kk74 := kk73.f (s := YK) (snd kk73 [(3, .c 24 [.t 0 (roL .part), .t 1 roI, .t 5 (owE .int 0), .t 6 roI] [] [])] Tryz.f137)
def kk75 := kk74.f (s := Uh) (snd kk74 [] Tryz.f97)
def kk76 := kk75.f (s := Xi) (snd kk75 [(7, .c 50 [.t 0 (roL .part), .t 2 (roE .bool), .t 7 (owE .int 0), .t 8 roI, .t 9 (owE .int 1), .t 10 roI] [] []), (3, .c 50 [.t 0 (roL .part), .t 2 (roE .bool), .t 7 (owE .int 0), .t 8 roI] [] [])] Tryz.f62)
def kk77 := kk76.f (s := Uy) (snd kk76 [] Tryz.f37)
def kk78 := kk77.f (s := Ua) (snd kk77 [] Tryz.f18)
def kk79 := kk78.f (s := QH) (snd kk78 [(3, .c 43 [.t 0 (roL .part), .t 1 (roE .bool), .t 5 (owE .str 0), .t 6 roI] [] [])] Tryz.f40)
def kk80 := kk79.f (s := Bj) (snd kk79 [] Tryz.f20)
def kk81 := kk80.f (s := Fj) (snd kk80 [(3, .c 32 [.b 1 0 (roL .cell), .t 3 (.own (.base .part) false true 0), .t 4 roI] [(1, 1)] [(1, 1, 0)])] Tryz.f6)
def kk82 := kk81.f (s := Yt) (snd kk81 [] Tryz.f41)
def kk83 := kk82.f (s := WQ) (snd kk82 [(3, .c 23 [.t 0 (roL .cell), .t 3 (owE .cell 0), .t 4 roI] [] [])] Tryz.f21)
def kk84 := kk83.f (s := NY) (snd kk83 [] Tryz.f7)
def kk85 := kk84.f (s := XQ) (snd kk84 [] Tryz.f74)
def kk86 := kk85.f (s := Jz) (snd kk85 [(2, .c 23 [.t 0 roS, .t 3 roI] [] [])] Tryz.f75)
def kk87 := kk86.f (s := X0) (snd kk86 [(2, .c 42 [.t 0 roS, .t 3 roI] [] [])] Tryz.f110)
def kk88 := kk87.f (s := DZ) (snd kk87 [] Tryz.f160)
def kk89 := kk88.f (s := Ls) (snd kk88 [] Tryz.f111)
def kk90 := kk89.f (s := Jv) (snd kk89 [] Tryz.f76)
def kk91 := kk90.f (s := Jy) (snd kk90 [] Tryz.f43)
def kk92 := kk91.f (s := PN) (snd kk91 [(2, .c 21 [.t 1 roI, .t 8 (roL .cell), .t 9 roI, .t 10 roI] [] [])] Tryz.f44)
def kk93 := kk92.f (s := Ah) (snd kk92 [(2, .c 29 [.b 1 0 (roL .cell), .t 6 (roL .cell), .t 7 roI, .t 8 roI] [(1, 1)] [(1, 1, 0)])] Tryz.f23)
def kk94 := kk93.f (s := Js) (snd kk93 [] Tryz.f68)
def kk95 := kk94.f Pq
def kk96 := kk95.f (s := Ju) (snd kk95 [(2, .c 29 [.t 0 roS, .t 3 roI] [] [])] Tryz.f154)
def kk97 := kk96.f Aa
def kk98 := kk97.f Ac
def kk99 := kk98.f (s := U1) (snd kk98 [(4, .c 152 [.t 0 roS, .t 1 roI, .b 4 0 roI, .b 4 1 roI, .b 4 2 roI, .b 4 3 roS, .t 7 roI] [(4, 4)] [(4, 4, 0)]), (8, .c 152 [.t 0 roS, .t 1 roI, .b 4 0 roI, .b 4 1 roI, .b 4 2 roI, .b 4 3 roS, .t 7 roI] [(4, 4)] [(4, 4, 0)])] Tryz.f140)
def adu := kk99.f (s := RQ) (snd kk99 [(5, .c 44 [.t 0 roS, .t 4 (owE .token 0), .t 5 roI] [] [])] Tryz.f101)
def adt := adu.f (s := PE) (snd adu [] Tryz.f141)
def ads := adt.b (s := Le) (bnd adt [] Tryz.f142)
def adr := ads.b (s := Ll) (bnd ads [] Tryz.f186)
def adq := adr.b (s := Lj) (bnd adr [] Tryz.f143)
def adp := adq.f (s := Si) (snd adq [] Tryz.f187)
def ado := adp.b (s := Lh) (bnd adp [] Tryz.f144)
def adn := ado.b (s := FB) (bnd ado [] Tryz.f146)
def MV := adn.f (s := RY) (snd adn [] Tryz.f147)
theorem eF : ∀ n, eP Tryz.prog (wV n) /\ eP Tryz.prog (yS n) /\ eP Tryz.prog (ql n) /\ eP Tryz.prog (wX n) /\ eP Tryz.prog (vw n)
 | 0 => ⟨(fun w S bb vs Et args x y h => by cases h), (fun w S bb vs Et args x y h => by cases h), (fun w S bb vs Et args x y h => by cases h), (fun w S bb vs Et args x y h => by cases h), (fun w S bb vs Et args x y h => by cases h)⟩
 | n + 1 =>
  have ih := eF n
  ⟨bnd (s := wV (n + 1)) (((((MV.b ih.1).b ih.2.1).b ih.2.2.1).b ih.2.2.2.1).b ih.2.2.2.2) [(28, .c 133 [.b 0 0 (roL .token), .b 0 1 roI, .b 0 2 roI, .b 2 0 roI, .b 2 1 roI, .b 2 2 roS, .b 2 3 (owE .expr 0), .b 6 0 roI, .b 6 1 roI, .b 6 2 roS, .b 6 3 (roL .expr), .t 115 (owE .int 1), .t 116 roI, .t 117 roI] [(0, 3), (2, 4), (6, 4)] [(0, 0, 0), (2, 2, 0), (6, 6, 0)])] Tryz.f102,
  bnd (s := yS (n + 1)) (((((MV.b ih.1).b ih.2.1).b ih.2.2.1).b ih.2.2.2.1).b ih.2.2.2.2) [(2, .c 25 [.b 0 0 (roL .token), .b 0 1 roI, .b 0 2 roI, .b 2 0 roI, .b 2 1 roI, .b 2 2 roS, .b 2 3 (owE .expr 0), .b 3 0 roI, .b 3 1 roI, .b 3 2 roS, .b 3 3 (roL .expr)] [(0, 3), (2, 4), (3, 4)] [(0, 0, 0), (2, 2, 0), (3, 3, 0)])] Tryz.f145,
  bnd (s := ql (n + 1)) (((((MV.b ih.1).b ih.2.1).b ih.2.2.1).b ih.2.2.2.1).b ih.2.2.2.2) [(2, .c 14 [.b 0 0 (roL .token), .b 0 1 roI, .b 0 2 roI, .b 2 0 roI, .b 2 1 roI, .b 2 2 roS, .b 2 3 (owE .expr 0), .b 3 0 roI, .b 3 1 roI, .b 3 2 roS, .b 3 3 (roL .expr)] [(0, 3), (2, 4), (3, 4)] [(0, 0, 0), (2, 2, 0), (3, 3, 0)])] Tryz.f188,
  bnd (s := wX (n + 1)) (((((MV.b ih.1).b ih.2.1).b ih.2.2.1).b ih.2.2.2.1).b ih.2.2.2.2) [] Tryz.f211,
  bnd (s := vw (n + 1)) (((((MV.b ih.1).b ih.2.1).b ih.2.2.1).b ih.2.2.2.1).b ih.2.2.2.2) [(4, .c 27 [.b 0 0 (roL .token), .b 0 1 roI, .b 0 2 roI, .t 1 roS, .t 5 (.own (.base .expr) false true 0)] [(0, 3)] [(0, 0, 0)])] Tryz.f233⟩
theorem BP : eP Tryz.prog Lm := fun w S bb vs Et args x y h => (eF (siz (α := aN) x + 1)).1 w S bb vs Et args x y h
def aez := MV.b BP
theorem DR : eP Tryz.prog Pn := fun w S bb vs Et args x y h => (eF (siz (α := aN) x + 1)).2.1 w S bb vs Et args x y h
def aey := aez.b DR
theorem wU : eP Tryz.prog DT := fun w S bb vs Et args x y h => (eF (siz (α := aN) x + 1)).2.2.1 w S bb vs Et args x y h
def aex := aey.b wU
theorem BQ : eP Tryz.prog Lp := fun w S bb vs Et args x y h => (eF (siz (α := aN) x + 1)).2.2.2.1 w S bb vs Et args x y h
def aew := aex.b BQ
theorem Ad : eP Tryz.prog Jq := fun w S bb vs Et args x y h => (eF (siz (α := aN) x.1 + 1)).2.2.2.2 w S bb vs Et args x y h
def adm := aew.b Ad
theorem qm : ∀ n, Sound Tryz.prog (yU n)
 | 0 => (fun w S args x y h => by cases h)
 | n + 1 =>
  have ih := qm n
  snd (s := yU (n + 1)) (adm.f ih) [(3, .c 19 [.t 3 roI, .t 7 (roL .expr), .t 8 roI, .t 9 roI] [] [])] Tryz.f148
theorem DV : Sound Tryz.prog Py := fun w S args x y h => (qm (siz (α := af) x + 1)) w S args x y h
def adl := adm.f DV
theorem qo : ∀ n, Sound Tryz.prog (yV n)
 | 0 => (fun w S args x y h => by cases h)
 | n + 1 =>
  have ih := qo n
  snd (s := yV (n + 1)) (adl.f ih) [(3, .c 20 [.t 3 roI, .t 7 (roL .expr), .t 8 roI, .t 9 roI] [] [])] Tryz.f149
theorem DW : Sound Tryz.prog Pz := fun w S args x y h => (qo (siz (α := af) x + 1)) w S args x y h
def adk := adl.f DW
def adi := adk.f (s := X3) (snd adk [] Tryz.f189)
theorem sG : ∀ n, Sound Tryz.prog (Cc n)
 | 0 => (fun w S args x y h => by cases h)
 | n + 1 =>
  have ih := sG n
  snd (s := Cc (n + 1)) (adi.f ih) [(2, .c 18 [.b 1 0 roI, .b 1 1 roI, .b 1 2 roS, .b 1 3 (roL .expr), .t 6 (roL .expr), .t 7 roI, .t 8 roI] [(1, 4)] [(1, 1, 0)])] Tryz.f150
theorem FK : Sound Tryz.prog Sz := fun w S args x y h => (sG (siz (α := af) x + 1)) w S args x y h
def adh := adi.f FK
def adg := adh.f (s := Jw) (snd adh [] Tryz.f103)
def adf := adg.f (s := Pv) (snd adg [] Tryz.f69)
def aev := adf.f (s := Lu) (snd adf [] Tryz.f70)
def ade := aev.f Ja
def adb := ade.f (s := Pj) (snd ade [] Tryz.f105)
def ada := adb.f (s := U9) (snd adb [(4, .c 38 [.t 1 roI, .t 7 (owE .int 0), .t 15 (owE .str 1), .t 16 roI, .t 17 roI] [] [])] Tryz.f106)
theorem xk : Sound Tryz.prog U8 := snd ada [(2, .c 19 [.t 1 roS, .t 7 (roL .str), .t 8 roI, .t 9 roI] [] [])] Tryz.f112
def ac9 := ada.f xk
def ac8 := ac9.f (s := JH) (snd ac9 [(2, .c 18 [.t 0 (roL .str), .t 5 (roL .str), .t 6 roI, .t 7 roI] [] [])] Tryz.f157)
def ac7 := ac8.f (s := LH) (snd ac8 [(2, .c 22 [.t 0 (roL .str), .t 5 (roL .str), .t 6 roI, .t 7 roI] [] [])] Tryz.f108)
def ac6 := ac7.f (s := Sj) (snd ac7 [] Tryz.f153)
def ac5 := ac6.f (s := FC) (snd ac6 [] Tryz.f194)
def Wh := ac5.f (s := U7) (snd ac5 [(15, .c 77 [.b 1 0 roI, .b 1 1 roI, .b 1 2 roI, .b 1 3 roS, .b 1 4 (roL .val), .b 1 5 (roL .str), .b 1 6 (roL .row), .b 4 0 (roL .int), .b 4 1 (roL .origin), .t 20 (roL .row), .t 21 roI, .t 22 roI, .t 45 (roL .origin), .t 46 roI, .t 47 roI] [(1, 7), (4, 2)] [(1, 1, 0), (4, 4, 0)]), (9, .c 77 [.b 1 0 roI, .b 1 1 roI, .b 1 2 roI, .b 1 3 roS, .b 1 4 (roL .val), .b 1 5 (roL .str), .b 1 6 (roL .row), .b 4 0 (roL .int), .b 4 1 (roL .origin), .t 20 (roL .row), .t 21 roI, .t 22 roI, .t 34 (roL .int), .t 35 roI, .t 36 roI] [(1, 7), (4, 2)] [(1, 1, 0), (4, 4, 0)]), (4, .c 77 [.b 1 0 roI, .b 1 1 roI, .b 1 2 roI, .b 1 3 roS, .b 1 4 (roL .val), .b 1 5 (roL .str), .b 1 6 (roL .row), .t 20 (roL .row), .t 21 roI, .t 22 roI] [(1, 7)] [(1, 1, 0)])] Tryz.f155)
end
end Go.Proofs.YtgfjbogcidlaeaaGreatDoor
