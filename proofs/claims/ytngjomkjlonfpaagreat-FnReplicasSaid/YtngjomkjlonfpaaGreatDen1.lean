import Derived.Test.YtngjomkjlonfpaaGreatDen0
/- The functions compute their models, by gen.py. -/
namespace Go.Proofs.YtngjomkjlonfpaaGreat
noncomputable section
open Go.Abs Go.Proofs
set_option maxRecDepth 100000
def kk63:=kk62.b (s:=aa9) (bnd kk62 [(9,.c 46 [.b 0 0 (roL .u8),.b 0 1 roI,.b 0 2 roI,.t 3 roS,.t 4 roI,.t 5 roI,.t 6 roI,.t 7 (owE .str 0),.t 8 roI] [(0,3)] [(0,0,0)]),(5,.c 46 [.b 0 0 (roL .u8),.b 0 1 roI,.b 0 2 roI,.t 3 roS,.t 4 roI,.t 5 roI,.t 6 roI] [(0,3)] [(0,0,0)])] Tryz.f123)
def kk64:=kk63.b (s:=abd) (bnd kk63 [] Tryz.f101)
def kk65:=kk64.b (s:=aaW) (bnd kk64 [] Tryz.f68)
def kk66:=kk65.b (s:=abh) (bnd kk65 [] Tryz.f103)
def kk67:=kk66.f (s:=OY) (snd kk66 [] Tryz.f104)
def kk68:=kk67.b (s:=abe) (bnd kk67 [(4,.c 34 [.b 0 0 (roL .u8),.b 0 1 roI,.b 0 2 roI,.t 3 (owE .read 0),.t 4 roI,.t 5 roI] [(0,3)] [(0,0,0)])] Tryz.f70)
def kk69:=kk68.b (s:=aaV) (bnd kk68 [(3,.c 64 [.b 0 0 (roL .u8),.b 0 1 roI,.b 0 2 roI,.t 1 (roL .op),.b 6 0 roI,.b 6 1 roI,.b 6 2 roI,.b 6 3 (owE .int 0),.b 6 4 roI,.b 6 5 roI,.b 6 6 roI,.b 6 7 roI,.b 6 8 roI,.b 6 9 roS,.b 6 10 roS,.b 6 11 roI,.b 6 12 roS,.b 6 13 roS,.b 6 14 roI,.b 6 15 roI,.b 6 16 (owE .read 1),.b 7 0 roI,.b 7 1 roI,.b 7 2 roI,.b 7 3 (owE .int 2),.b 7 4 roI,.b 7 5 roI,.b 7 6 roI,.b 7 7 roI,.b 7 8 roI,.b 7 9 roS,.b 7 10 roS,.b 7 11 roI,.b 7 12 roS,.b 7 13 roS,.b 7 14 roI,.b 7 15 roI,.b 7 16 (owE .read 3),.t 8 roI] [(0,3),(6,17),(7,17)] [(0,0,0),(6,6,0),(7,7,0)])] Tryz.f40)
def kk70:=kk69.b (s:=aer) (bnd kk69 [(9,.c 79 [.b 0 0 (roL .u8),.b 0 1 roI,.b 0 2 roI,.t 5 (owE .replica 0),.t 9 roI,.t 10 roI] [(0,3)] [(0,0,0)]),(3,.c 79 [.b 0 0 (roL .u8),.b 0 1 roI,.b 0 2 roI,.t 1 roI,.t 5 (owE .replica 0),.t 6 roI] [(0,3)] [(0,0,0)])] Tryz.f16)
def kk71:=kk70.b (s:=aeu) (bnd kk70 [(4,.c 40 [.b 0 0 (roL .u8),.b 0 1 roI,.b 0 2 roI,.t 5 (owE .op 0),.t 6 roI,.t 7 roI] [(0,3)] [(0,0,0)])] Tryz.f71)
def kk72:=kk71.b (s:=aaY) (bnd kk71 [] Tryz.f42)
def kk73:=kk72.b (s:=aaQ) (bnd kk72.tr [(9,.c 54 [.b 0 0 (roL .u8),.b 0 1 roI,.b 0 2 roI,.b 2 0 roI,.b 2 1 (owE .op 0),.b 3 0 roI,.b 3 1 (owE .op 1),.t 4 roI] [(0,3),(2,2),(3,2)] [(0,0,0),(2,2,0),(3,3,0)])] Tryz.f18)
def kk74:=kk73.f (s:=YG) (snd kk73 [] Tryz.f5)
def al2:=kk74.f (s:=aco) (snd kk74 [] Tryz.f108)
theorem pO:∀n,Sound Tryz.prog (Fg n)/\Sound Tryz.prog (Dt n)
 | 0=>⟨(fun w S args x y h=>by cases h),(fun w S args x y h=>by cases h)⟩
 | n+1=>
  have ih:=pO n
  ⟨snd (s:=Fg (n+1)) ((al2.f ih.1).f ih.2) [(6,.c 33 [.b 2 0 roI,.b 2 1 roI,.b 2 2 roI,.b 2 3 roS,.b 2 4 (owE .val 0),.b 2 5 (owE .str 4),.b 2 6 (owE .row 6),.b 3 0 roI,.b 3 1 roI,.b 3 2 roI,.b 3 3 roS,.b 3 4 (owE .val 7),.b 3 5 (owE .str 8),.b 3 6 (owE .row 10),.t 18 (roL .row),.t 19 roI,.t 20 roI] [(2,7),(3,7)] [(2,2,0),(3,3,0)])] Tryz.f75,
  snd (s:=Dt (n+1)) ((al2.f ih.1).f ih.2) [(3,.c 20 [.t 3 (owE .val 0),.t 7 (roL .val),.t 8 roI,.t 9 roI] [] [])] Tryz.f107⟩
theorem KQ:Sound Tryz.prog Xr:=fun w S args x y h=>(pO (siz (α:=aS) x+1)).1 w S args x y h
def kk76:=al2.f KQ
theorem Jm:Sound Tryz.prog TV:=fun w S args x y h=>(pO (siz (α:=List aS) x+1)).2 w S args x y h
def kk77:=kk76.f Jm
def kk78:=kk77.f (s:=Xt) (snd kk77 [(3,.c 23 [.t 3 (owE .read 0),.t 7 (roL .read),.t 8 roI,.t 9 roI] [] [])] Tryz.f50)
def kk79:=kk78.f (s:=afm) (snd kk78 [] Tryz.f25)
def kk80:=kk79.f (s:=Zw) (snd kk79 [] Tryz.f28)
end
end Go.Proofs.YtngjomkjlonfpaaGreat
