import Derived.Test.YtkebfkahdmddpaaGreatDoorDen2
/- The functions compute their models, by gen.py. -/
namespace Go.Proofs.YtkebfkahdmddpaaGreatDoor
noncomputable section
open Go.Abs Go.Proofs
set_option maxRecDepth 100000
def ag7:=ag8.f (s:=PL) (snd ag8 [] Tryz.f56)
def ag6:=ag7.f (s:=VT) (snd ag7 [(5,.c 48 [.t 0 (roL .part),.t 1 roS,.t 2 roS,.t 7 roI,.t 8 roI] [] [])] Tryz.f27)
theorem yJ:∀n,Sound Tryz.prog (Jm n)
 | 0=>(fun w S args x y h=>by cases h)
 | n+1=>
  have ih:=yJ n
  snd (s:=Jm (n+1)) (ag6.f ih) [(3,.c 31 [.b 1 0 roI,.b 1 1 roI,.b 1 2 roS,.b 1 3 (roL .expr),.b 2 0 roI,.b 2 1 roI,.b 2 2 roS,.b 2 3 (owE .expr 0),.b 3 0 roI,.b 3 1 roI,.b 3 2 roS,.b 3 3 (owE .expr 4),.t 4 roI] [(1,4),(2,4),(3,4)] [(1,1,0),(2,2,0),(3,3,0)])] Tryz.f88
theorem MI:Sound Tryz.prog Y1:=fun w S args x y h=>(yJ (siz (α:=af) x+1)) w S args x y h
def ag5:=ag6.f MI
theorem uj:∀n,Sound Tryz.prog (CV n)
 | 0=>(fun w S args x y h=>by cases h)
 | n+1=>
  have ih:=uj n
  snd (s:=CV (n+1)) (ag5.f ih) [(5,.c 77 [.t 1 roS,.t 2 roS,.b 3 0 roI,.b 3 1 roI,.b 3 2 roS,.b 3 3 (roL .expr),.b 6 0 roI,.b 6 1 roI,.b 6 2 roS,.b 6 3 (owE .expr 0),.b 7 0 roI,.b 7 1 roI,.b 7 2 roS,.b 7 3 (owE .expr 1),.t 8 roI] [(3,4),(6,4),(7,4)] [(3,3,0),(6,6,0),(7,7,0)])] Tryz.f58
theorem Ht:Sound Tryz.prog Ue:=fun w S args x y h=>(uj (siz (α:=af) x.1+1)) w S args x y h
def ag4:=ag5.f Ht
def ag3:=ag4.f (s:=Pq) (snd ag4 [] Tryz.f29)
def ag2:=ag3.f (s:=EQ) (snd ag3 [(10,.c 120 [.t 1 roS,.t 2 roS,.b 3 0 (roL .cell),.b 6 0 (owE .cell 0),.b 8 0 (owE .cell 1),.t 9 (.own (.base .part) false true 2),.t 10 roI,.t 11 roI] [(3,1),(6,1),(8,1)] [(3,3,0),(6,6,0),(8,8,0)])] Tryz.f7)
def ag1:=ag2.f (s:=Y4) (snd ag2 [(2,.c 19 [.t 0 (roL .str),.t 1 roS,.t 5 roI] [] [])] Tryz.f33)
def ag0:=ag1.f (s:=acp) (snd ag1 [] Tryz.f10)
def agZ:=ag0.f (s:=Yt) (snd ag0 [(4,.c 26 [.t 0 (roL .int),.t 1 (roL .int),.t 5 roI] [] [])] Tryz.f11)
def agY:=agZ.f (s:=V3) (snd agZ [(2,.c 18 [.t 0 (roL .int),.t 1 roI,.t 5 roI] [] [])] Tryz.f68)
def agX:=agY.f (s:=abo) (snd agY [(7,.c 55 [.t 0 (roL .int),.t 3 (owE .int 0),.t 4 roI,.t 5 roI] [] []),(3,.c 55 [.t 0 (roL .int),.t 3 (owE .int 0),.t 4 roI] [] [])] Tryz.f35)
def agW:=agX.f (s:=PU) (snd agX [(6,.c 42 [.t 0 (roL .part),.t 5 (owE .int 0),.t 6 (owE .str 1),.t 7 roI] [] [])] Tryz.f12)
def agV:=agW.f (s:=Eh) (snd agW [(3,.c 41 [.b 3 0 (roL .cell),.t 5 (owE .int 0),.t 11 (roL .cell),.t 12 roI,.t 13 roI] [(3,1)] [(3,3,0)])] Tryz.f13)
def ajc:=agV.f (s:=DF) (snd agV [(3,.c 51 [.b 2 0 (roL .cell),.b 3 0 (roL .cell),.t 5 (owE .int 0),.t 6 roI] [(2,1),(3,1)] [(2,2,0),(3,3,0)])] Tryz.f14)
theorem CP:Sound Tryz.prog Kz:=snd ajc [(11,.c 107 [.b 3 0 (.own (.base .cell) false false 0),.t 4 roS,.t 5 roS,.b 6 0 (.own (.base .cell) true false 1),.t 10 (.own (.base .part) false true 2),.t 11 (.own (.base .part) false true 4),.t 12 roI] [(3,1),(6,1)] [(3,3,0),(6,6,0)])] Tryz.f3
end
end Go.Proofs.YtkebfkahdmddpaaGreatDoor
