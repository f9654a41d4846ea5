import Derived.Test.YtngjomkjlonfpaaGreatDoorDen3
/- The functions compute their models, by gen.py. -/
namespace Go.Proofs.YtngjomkjlonfpaaGreatDoor
noncomputable section
open Go.Abs Go.Proofs
set_option maxRecDepth 100000
def amS:=amT.f (s:=acI) (snd amT [] Tryz.f129)
def amR:=amS.f (s:=agj) (snd amS [] Tryz.f130)
def amQ:=amR.f (s:=Z7) (snd amR [(5,.c 48 [.t 0 (roL .part),.t 1 roS,.t 2 roS,.t 7 roI,.t 8 roI] [] [])] Tryz.f128)
def amP:=amQ.f (s:=Ie) (snd amQ [(10,.c 120 [.t 1 roS,.t 2 roS,.b 3 0 (roL .cell),.b 6 0 (owE .cell 0),.b 8 0 (owE .cell 1),.t 9 (.own (.base .part) false true 2),.t 10 roI,.t 11 roI] [(3,1),(6,1),(8,1)] [(3,3,0),(6,6,0),(8,8,0)])] Tryz.f91)
def amO:=amP.f (s:=XK) (snd amP [(8,.c 55 [.b 3 0 (roL .cell),.b 6 0 (owE .cell 0),.b 10 0 (owE .cell 1),.t 11 roI,.t 12 roI] [(3,1),(6,1),(10,1)] [(3,3,0),(6,6,0),(10,10,0)]),(3,.c 55 [.t 1 roS,.t 2 roS,.b 3 0 (roL .cell),.b 6 0 (owE .cell 0),.b 8 0 (owE .cell 1),.t 9 roI] [(3,1),(6,1),(8,1)] [(3,3,0),(6,6,0),(8,8,0)])] Tryz.f56)
def amN:=amO.f (s:=aii) (snd amO [(2,.c 31 [.t 0 (roL .tape),.t 1 roI,.t 2 roI,.t 7 roI] [] [])] Tryz.f93)
def amM:=amN.f (s:=adf) (snd amN [] Tryz.f62)
def amL:=amM.f (s:=aap) (snd amM [(2,.c 26 [.t 0 (roL .read),.b 3 0 roI,.b 3 1 roI,.b 3 2 roI,.b 3 3 roS,.b 3 4 roI,.b 3 5 roI,.b 3 6 roI,.b 3 7 roS,.b 3 8 (roL .val),.b 3 9 (roL .str),.b 3 10 (roL .row),.b 4 0 roI,.b 4 1 roI,.b 4 2 roI,.b 4 3 roS,.b 4 4 (owE .val 0),.b 4 5 (owE .str 1),.b 4 6 (owE .row 2),.t 6 roI] [(3,11),(4,7)] [(3,3,0),(4,4,0)])] Tryz.f132)
def amK:=amL.f (s:=Us) (snd amL [(3,.c 37 [.t 1 (roL .read),.t 5 (owE .read 0),.t 6 roI] [] [])] Tryz.f94)
def amJ:=amK.f (s:=XP) (snd amK [] Tryz.f95)
def amI:=amJ.f (s:=acK) (snd (amJ.cuts [(12,9,12,71,70)]) [(10,.c 73 [.t 9 (owE .tape 0),.b 11 0 roI,.b 11 1 roI,.b 11 2 (owE .read 1),.t 12 roI] [(11,3)] [(11,11,0)])] Tryz.f58)
def amH:=amI.f (s:=ZK) (snd amI [] Tryz.f24)
def amG:=amH.f (s:=XC) (snd amH [(9,.c 56 [.t 0 (roL .op),.b 2 0 (owE .cell 0),.b 2 1 (owE .tape 1),.b 2 2 (owE .op 4),.b 3 0 (owE .cell 5),.b 3 1 (owE .tape 6),.b 3 2 (owE .op 7),.t 4 roI,.t 5 (.own (.base .op) false true 8),.t 6 roI] [(2,3),(3,3)] [(2,2,0),(3,3,0)]),(5,.c 56 [.t 0 (roL .op),.b 2 0 (owE .cell 0),.b 2 1 (owE .tape 1),.b 2 2 (owE .op 4),.b 3 0 (owE .cell 5),.b 3 1 (owE .tape 6),.b 3 2 (owE .op 7),.t 4 roI] [(2,3),(3,3)] [(2,2,0),(3,3,0)])] Tryz.f8)
def amF:=amG.f (s:=KG) (snd amG [(4,.c 31 [.b 2 0 (roL .cell),.b 3 0 (roL .cell),.t 5 roI] [(2,1),(3,1)] [(2,2,0),(3,3,0)])] Tryz.f25)
def amE:=amF.f (s:=agA) (snd amF [(4,.c 26 [.t 0 (roL .int),.t 1 (roL .int),.t 5 roI] [] [])] Tryz.f31)
def amD:=amE.f (s:=acZ) (snd amE [(4,.c 26 [.t 0 (roL .str),.t 1 (roL .str),.t 5 roI] [] [])] Tryz.f134)
def amC:=amD.f (s:=XM) (snd amD [(4,.c 26 [.t 0 (roL .origin),.t 1 (roL .origin),.t 5 roI] [] [])] Tryz.f135)
theorem BX:∀n,Sound Tryz.prog (PY n)
 | 0=>(fun w S args x y h=>by cases h)
 | n+1=>
  have ih:=BX n
  snd (s:=PY (n+1)) (amC.f ih) [(9,.c 121 [.t 2 (roE .bool),.b 3 0 roI,.b 3 1 roI,.b 3 2 roI,.b 3 3 roS,.b 3 4 (roL .val),.b 3 5 (roL .str),.b 3 6 (roL .row),.b 4 0 roI,.b 4 1 roI,.b 4 2 roI,.b 4 3 roS,.b 4 4 (roL .val),.b 4 5 (roL .str),.b 4 6 (roL .row),.t 8 roI] [(3,7),(4,7)] [(3,3,0),(4,4,0)]),(4,.c 121 [.t 2 (roE .bool),.b 3 0 roI,.b 3 1 roI,.b 3 2 roI,.b 3 3 roS,.b 3 4 (roL .val),.b 3 5 (roL .str),.b 3 6 (roL .row),.b 4 0 roI,.b 4 1 roI,.b 4 2 roI,.b 4 3 roS,.b 4 4 (roL .val),.b 4 5 (roL .str),.b 4 6 (roL .row),.t 7 roI] [(3,7),(4,7)] [(3,3,0),(4,4,0)])] Tryz.f98
theorem Uu:Sound Tryz.prog agr:=fun w S args x y h=>(BX (siz (α:=aQ) x.1+siz (α:=aQ) x.2.1+1)) w S args x y h
def amB:=amC.f Uu
def amA:=amB.f (s:=UK) (snd amB [] Tryz.f63)
def amz:=amA.f (s:=acT) (snd amA [(4,.c 41 [.t 0 (roL .read),.t 1 (roL .read),.t 5 roI] [] [])] Tryz.f32)
def amy:=amz.f (s:=ZV) (snd amz [(4,.c 55 [.t 0 (roL .tape),.t 1 (roL .tape),.t 5 roI] [] [])] Tryz.f26)
def amx:=amy.f (s:=KH) (snd amy [] Tryz.f9)
def apT:=amx.f (s:=adD) (snd amx [] Tryz.f12)
theorem MJ:Sound Tryz.prog Zr:=snd apT [(16,.c 109 [.t 3 (.own (.base .op) false false 0),.b 4 0 (owE .cell 1),.b 4 1 (owE .tape 2),.b 4 2 (owE .op 3),.t 5 roI,.b 6 0 (owE .cell 5),.b 6 1 (owE .tape 7),.b 6 2 (owE .op 8),.t 7 (.own (.base .op) false true 9),.t 8 roI,.t 9 roI] [(4,3),(6,3)] [(4,4,0),(6,6,0)]),(13,.c 109 [.t 3 (.own (.base .op) false false 0),.b 4 0 (owE .cell 1),.b 4 1 (owE .tape 2),.b 4 2 (owE .op 3),.t 5 roI,.b 6 0 (owE .cell 5),.b 6 1 (owE .tape 7),.b 6 2 (owE .op 8),.t 7 (.own (.base .op) false true 9),.t 8 roI] [(4,3),(6,3)] [(4,4,0),(6,6,0)])] Tryz.f3
end
end Go.Proofs.YtngjomkjlonfpaaGreatDoor
