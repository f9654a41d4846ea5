import Derived.Test.YtgfjbogcidlaeaaGreatDoorDen1
/- The functions compute their models, by gen.py. -/
namespace Go.Proofs.YtgfjbogcidlaeaaGreatDoor
noncomputable section
open Go.Abs Go.Proofs
set_option maxRecDepth 100000
theorem BR (n : Int) (step : Int) (text : Str) (columns : List Str) (rows : List bQ) : Vl Wh.1 [] Tryz.f107 fG.ps fG.rs fG.ex (⟨5, n, step, text, [], columns, rows⟩ : bg) = iL ⟨5, n, step, text, [], columns, rows⟩ := by kernel_rfl
theorem yK : Sound Tryz.prog fG :=
 Sound.weaken (f := fun x => Vl Wh.1 [] Tryz.f107 fG.ps fG.rs fG.ex x) (tu Wh.2 pq [] (fn := Tryz.f107) (by kernel_rfl) fun x => rfl) fun x y h => by
  obtain ⟨kind, n, step, text, list, columns, rows⟩ := x
  cases hk : ((kind == 5) && list.isEmpty) with
  | false =>
   have h : (bif ((kind == 5) && list.isEmpty) then iL ⟨kind, n, step, text, list, columns, rows⟩ else none) = some y := h
   rw [hk] at h; cases h
  | true =>
   have h : (bif ((kind == 5) && list.isEmpty) then iL ⟨kind, n, step, text, list, columns, rows⟩ else none) = some y := h
   rw [hk] at h
   simp only [zI, beq_iff_eq, List.isEmpty_iff] at hk
   obtain ⟨h_kind, h_list⟩ := hk
   subst kind list
   exact (BR n step text columns rows).trans h
def ac4 := Wh.f yK
def ac3 := ac4.f (s := Px) (snd ac4 [(4, .c 48 [.b 2 0 roI, .b 2 1 roI, .b 2 2 roI, .b 2 3 roS, .b 2 4 (owE .val 0), .b 2 5 (owE .str 1), .b 2 6 (owE .row 3), .b 5 0 roI, .b 5 1 roI, .b 5 2 roI, .b 5 3 roS, .b 5 4 (owE .val 4), .b 5 5 (owE .str 6), .b 5 6 (owE .row 7), .t 18 (roL .str), .t 19 roI, .t 20 roI] [(2, 7), (5, 7)] [(2, 2, 0), (5, 5, 0)])] Tryz.f71)
def ac2 := ac3.f (s := PK) (snd ac3 [(9, .c 50 [.t 6 (owE .str 0), .t 27 (roL .str), .t 28 roI, .t 29 roI] [] [])] Tryz.f72)
def ZE := ac2.f (s := Va) (snd ac2 [] Tryz.f159)
theorem kV : ∀ n, Sound Tryz.prog (yZ n) /\ Sound Tryz.prog (xu n)
 | 0 => ⟨(fun w S args x y h => by cases h), (fun w S args x y h => by cases h)⟩
 | n + 1 =>
  have ih := kV n
  ⟨snd (s := yZ (n + 1)) ((ZE.f ih.1).f ih.2) [(6, .c 33 [.b 2 0 roI, .b 2 1 roI, .b 2 2 roI, .b 2 3 roS, .b 2 4 (owE .val 0), .b 2 5 (owE .str 4), .b 2 6 (owE .row 6), .b 3 0 roI, .b 3 1 roI, .b 3 2 roI, .b 3 3 roS, .b 3 4 (owE .val 7), .b 3 5 (owE .str 8), .b 3 6 (owE .row 10), .t 18 (roL .row), .t 19 roI, .t 20 roI] [(2, 7), (3, 7)] [(2, 2, 0), (3, 3, 0)])] Tryz.f109,
  snd (s := xu (n + 1)) ((ZE.f ih.1).f ih.2) [(3, .c 20 [.t 3 (owE .val 0), .t 7 (roL .val), .t 8 roI, .t 9 roI] [] [])] Tryz.f158⟩
theorem DY : Sound Tryz.prog PL := fun w S args x y h => (kV (siz (α := bg) x + 1)).1 w S args x y h
def aeu := ZE.f DY
theorem BV : Sound Tryz.prog LD := fun w S args x y h => (kV (siz (α := List bg) x + 1)).2 w S args x y h
def ac1 := aeu.f BV
def ac0 := ac1.f (s := Jo) (snd ac1 [(5, .c 39 [.t 0 roI, .b 4 0 roI, .b 4 1 roI, .b 4 2 roI, .b 4 3 roS, .b 4 4 (owE .val 0), .b 4 5 (owE .str 1), .b 4 6 (owE .row 2), .b 5 0 roI, .b 5 1 roI, .b 5 2 roI, .b 5 3 roS, .b 5 4 (owE .val 6), .b 5 5 (owE .str 7), .b 5 6 (owE .row 8), .t 24 roI, .t 25 roI] [(4, 7), (5, 7)] [(4, 4, 0), (5, 5, 0)])] Tryz.f73)
def acZ := ac0.f (s := JD) (snd ac0 [] Tryz.f42)
def acY := acZ.s (s := LG) (ssd acZ [(5, .c 24 [.t 3 (.own (.base .part) false true 0), .t 11 (roL .cell), .t 12 roI, .t 13 roI] [] [])] Tryz.f22)
def acX := acY.f (s := Sl) (snd acY [(3, .c 31 [.t 1 roS, .t 5 (owE .int 0), .t 9 (roL .part), .t 10 roI, .t 11 roI] [] [])] Tryz.f77)
theorem rW : Sound Tryz.prog Pm := snd (acX.ins [lK] (by intro s hs; simp only [List.mem_singleton] at hs; subst hs; exact ⟨rO, vJ⟩)) [(3, .c 27 [.t 0 (roL .str), .t 3 (owE .str 0), .t 7 (roL .str), .t 8 roI, .t 9 roI] [] [])] Tryz.f78
def acW := acX.f rW
def acV := acW.f (s := PD) (snd acW [(3, .c 36 [.t 0 (roL .part), .t 1 (roE .bool), .t 5 (owE .str 0), .t 9 (roL .part), .t 10 roI, .t 11 roI] [] [])] Tryz.f45)
def acU := acV.f (s := BU) (snd acV [] Tryz.f24)
def acT := acU.f (s := JE) (snd acU [(3, .c 29 [.b 1 0 (roL .cell), .t 3 (owE .int 0), .t 8 (.own (.base .part) false true 2), .t 9 roI, .t 10 roI] [(1, 1)] [(1, 1, 0)])] Tryz.f25)
theorem yY : Sound Tryz.prog X4 := snd acT [(2, .c 17 [.t 1 roI, .t 7 (roL .int), .t 8 roI, .t 9 roI] [] [])] Tryz.f51
def aes := acT.f yY
end
end Go.Proofs.YtgfjbogcidlaeaaGreatDoor
