import Derived.Test.YtapgeemjgckgaaaGreatDoorDen4
/- The functions compute their models, by gen.py. -/
namespace Go.Proofs.YtapgeemjgckgaaaGreatDoor
noncomputable section
open Go.Abs Go.Proofs
set_option maxRecDepth 100000
theorem IK:iM Tryz.prog X3:=mnd alW [] Tryz.f9
def alV:=alW.m IK
def alU:=alV.f (s:=abe) (snd alV [(2,.c 69 [.t 0 (roL .cell),.t 1 roI,.t 5 roI] [] [])] Tryz.f88)
def alT:=alU.f (s:=Rw) (snd alU [] Tryz.f39)
def alS:=alT.f (s:=abd) (snd alT [(2,.c 32 [.t 0 (roL .file),.t 1 roI,.t 5 roI] [] [])] Tryz.f89)
def alR:=alS.f (s:=aa8) (snd alS [] Tryz.f40)
def alQ:=alR.f (s:=UN) (snd alR [(2,.c 22 [.t 0 (roL .str),.t 1 roI,.t 5 roI] [] [])] Tryz.f93)
def alP:=alQ.f (s:=adV) (snd alQ [(2,.c 21 [.t 0 (roL .int),.t 1 roI,.t 5 roI] [] [])] Tryz.f91)
def alO:=alP.f (s:=UO) (snd alP [(2,.c 31 [.t 0 (roL .origin),.t 1 roI,.t 5 roI] [] [])] Tryz.f142)
def alN:=alO.f (s:=adU) (snd alO [(2,.c 31 [.t 0 (roL .row),.t 1 roI,.t 5 roI] [] [])] Tryz.f94)
theorem wF:∀n,Sound Tryz.prog (FK n)
 | 0=>(fun w S args x y h=>by cases h)
 | n+1=>
  have ih:=wF n
  snd (s:=FK (n+1)) (alN.f ih) [(2,.c 77 [.t 0 (roL .val),.t 1 roI,.t 5 roI] [] [])] Tryz.f92
theorem KT:Sound Tryz.prog YB:=fun w S args x y h=>(wF (siz (α:=List aC) x.1+1)) w S args x y h
def alM:=alN.f KT
def alL:=alM.f (s:=abb) (snd alM [(2,.c 121 [.t 0 (roL .read),.t 1 roI,.t 5 roI] [] [])] Tryz.f90)
def alK:=alL.f (s:=aa9) (snd alL [(2,.c 40 [.t 0 (roL .tape),.t 1 roI,.t 5 roI] [] [])] Tryz.f41)
def alJ:=alK.f (s:=YC) (snd alK [(2,.c 131 [.t 0 (roL .entry),.t 1 roI,.t 5 roI] [] [])] Tryz.f42)
def ape:=alJ.f (s:=YD) (snd alJ [] Tryz.f10)
theorem sN:Sound Tryz.prog yR:=snd ape.tr [] Tryz.f3
end
end Go.Proofs.YtapgeemjgckgaaaGreatDoor
