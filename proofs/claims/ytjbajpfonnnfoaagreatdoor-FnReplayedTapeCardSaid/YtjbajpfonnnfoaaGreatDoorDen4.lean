import Derived.Test.YtjbajpfonnnfoaaGreatDoorSrtGrp
/- The functions compute their models, by gen.py. -/
namespace Go.Proofs.YtjbajpfonnnfoaaGreatDoor
noncomputable section
open Go.Abs Go.Proofs
set_option maxRecDepth 100000
def ai5:=ak1.f JW
def ai4:=ai5.f (s:=ZB) (snd ai5 [(3,.c 25 [.t 1 (roL .str),.t 5 (owE .str 0),.t 9 (roL .str),.t 10 roI,.t 11 roI] [] [])] Tryz.f205)
def ai3:=ai4.f (s:=acy) (snd ai4 [(16,.c 128 [.b 5 0 roI,.b 5 1 roI,.b 5 2 roI,.b 5 3 roS,.b 5 4 (roL .val),.b 5 5 (roL .str),.b 5 6 (roL .row),.b 6 0 roI,.b 6 1 roI,.b 6 2 roI,.b 6 3 roS,.b 6 4 (owE .val 0),.b 6 5 (owE .str 1),.b 6 6 (owE .row 2),.t 9 roI,.t 10 roI,.b 12 0 roI,.b 12 1 roI,.b 12 2 roI,.b 12 3 roS,.b 12 4 (owE .val 8),.b 12 5 (owE .str 9),.b 12 6 (owE .row 10),.b 14 0 (roL .int),.b 14 1 (roL .origin),.t 69 (roL .row),.t 70 roI,.t 71 roI,.t 76 (roL .row),.t 77 roI,.t 78 roI] [(5,7),(6,7),(12,7),(14,2)] [(5,5,0),(6,6,0),(12,12,0),(14,14,0)]),(13,.c 128 [.b 5 0 roI,.b 5 1 roI,.b 5 2 roI,.b 5 3 roS,.b 5 4 (roL .val),.b 5 5 (roL .str),.b 5 6 (roL .row),.b 6 0 roI,.b 6 1 roI,.b 6 2 roI,.b 6 3 roS,.b 6 4 (owE .val 0),.b 6 5 (owE .str 1),.b 6 6 (owE .row 2),.t 9 roI,.t 10 roI,.b 12 0 roI,.b 12 1 roI,.b 12 2 roI,.b 12 3 roS,.b 12 4 (owE .val 8),.b 12 5 (owE .str 9),.b 12 6 (owE .row 10),.t 69 (roL .row),.t 70 roI,.t 71 roI] [(5,7),(6,7),(12,7)] [(5,5,0),(6,6,0),(12,12,0)])] Tryz.f170)
def ai2:=ai3.f (s:=Vg) (snd (ai3.tr.hol [100,102]) [(13,.c 110 [.b 8 0 roI,.b 8 1 roI,.b 8 2 roI,.b 8 3 roS,.b 8 4 (owE .val 0),.b 8 5 (owE .str 1),.b 8 6 (owE .row 2),.t 11 roI,.t 12 roI,.b 13 0 roI,.b 13 1 roI,.b 13 2 roI,.b 13 3 roS,.b 13 4 (.tree (.base .val) 3),.b 13 5 (owE .str 10),.b 13 6 (.tree (.base .row) 11),.t 72 (roL .row),.t 73 roI,.t 74 roI] [(8,7),(13,7)] [(8,8,0),(13,13,0)])] Tryz.f171)
def ai1:=ai2.f (s:=JY) (snd ai2 [] Tryz.f127)
def ai0:=ai1.f (s:=Xq) (snd ai1 [] Tryz.f84)
def aiZ:=ai0.f (s:=Xy) (snd ai0 [(2,.c 22 [.b 3 0 roI,.b 3 1 roI,.b 3 2 roI,.b 3 3 roS,.b 3 4 roI,.b 3 5 roI,.b 3 6 roI,.b 3 7 roS,.b 3 8 (roL .val),.b 3 9 (roL .str),.b 3 10 (roL .row),.b 4 0 roI,.b 4 1 roI,.b 4 2 roI,.b 4 3 roS,.b 4 4 (owE .val 0),.b 4 5 (owE .str 1),.b 4 6 (owE .row 2),.t 8 (roL .read),.t 9 roI,.t 10 roI] [(3,11),(4,7)] [(3,3,0),(4,4,0)])] Tryz.f33)
def aiY:=aiZ.f (s:=akg) (snd aiZ [] Tryz.f206)
def aiX:=aiY.f (s:=OD) (snd aiY [(2,.c 22 [.t 1 roS,.t 9 (roL .file),.t 10 roI,.t 11 roI] [] [])] Tryz.f207)
def aiW:=aiX.f (s:=JX) (snd aiX [] Tryz.f174)
def Xh:=aiW.mc (s:=IG) 6 (mcd aiW.mo [(2,{ n:=81,its:=[.b 0 0 (roL .read),.b 0 1 roI,.b 0 2 roI,.b 0 3 (roL .file),.b 0 4 roI,.b 0 5 roI,.b 0 6 (.own (.base .read) false false 0),.b 0 7 roI,.b 0 8 (roE .bool),.b 3 0 roI,.b 3 1 roI,.b 3 2 roI,.b 3 3 roS,.b 3 4 roI,.b 3 5 roI,.b 3 6 roI,.b 3 7 roS,.b 3 8 (roL .val),.b 3 9 (roL .str),.b 3 10 (roL .row),.b 4 0 roI,.b 4 1 roI,.b 4 2 roI,.b 4 3 roS,.b 4 4 (owE .val 1),.b 4 5 (owE .str 2),.b 4 6 (owE .row 5),.t 13 roI,.t 14 roI],boxes:=[(0,9),(3,11),(4,7)],ptrs:=[(0,0,0),(3,3,0),(4,4,0)],als:=[(12,0,6)] })] 6 Tryz.f128)
theorem gY:∀n,fO Tryz.prog (qy n) 6/\fO Tryz.prog (sK n) 6/\fO Tryz.prog (qx n) 6/\fO Tryz.prog (qA n) 6
 | 0=>⟨(fun w S R bb vs Et args x y h=>by cases h),(fun w S R bb vs Et args x y h=>by cases h),(fun w S R bb vs Et args x y h=>by cases h),(fun w S R bb vs Et args x y h=>by cases h)⟩
 | n+1=>
  have ih:=gY n
  ⟨mcd (s:=qy (n+1)) ((((Xh.mc 6 ih.1).mc 6 ih.2.1).mc 6 ih.2.2.1).mc 6 ih.2.2.2).mo [] 6 Tryz.f30,
  mcd (s:=sK (n+1)) ((((Xh.mc 6 ih.1).mc 6 ih.2.1).mc 6 ih.2.2.1).mc 6 ih.2.2.2).mo [(3,.c 26 [.b 0 0 (roL .read),.b 0 1 roI,.b 0 2 roI,.b 0 3 (roL .file),.b 0 4 roI,.b 0 5 roI,.b 0 6 (.own (.base .read) false false 0),.b 0 7 roI,.b 0 8 (roE .bool),.t 2 (roL .binding),.t 7 (.own (.base .val) false true 1),.t 11 (roL .expr),.t 12 roI,.t 13 roI] [(0,9)] [(0,0,0)])] 6 Tryz.f76,
  mcd (s:=qx (n+1)) ((((Xh.mc 6 ih.1).mc 6 ih.2.1).mc 6 ih.2.2.1).mc 6 ih.2.2.2).mo [(8,.c 62 [.b 0 0 (roL .read),.b 0 1 roI,.b 0 2 roI,.b 0 3 (roL .file),.b 0 4 roI,.b 0 5 roI,.b 0 6 (.own (.base .read) false false 0),.b 0 7 roI,.b 0 8 (roE .bool),.t 2 (roL .binding),.b 4 0 roI,.b 4 1 roI,.b 4 2 roS,.b 4 3 (roL .expr),.b 6 0 roI,.b 6 1 roI,.b 6 2 roI,.b 6 3 roS,.b 6 4 (owE .val 1),.b 6 5 (owE .str 2),.b 6 6 (owE .row 3),.t 8 (.own (.base .val) false true 5),.t 34 (roL .val),.t 35 roI,.t 36 roI] [(0,9),(4,4),(6,7)] [(0,0,0),(4,4,0),(6,6,0)])] 6 Tryz.f80,
  mcd (s:=qA (n+1)) ((((Xh.mc 6 ih.1).mc 6 ih.2.1).mc 6 ih.2.2.1).mc 6 ih.2.2.2).mo [] 6 Tryz.f81⟩
theorem Ec:fO Tryz.prog Ou 6:=.fuel qy (fun n=>rfl) (fun n=>(gY n).1) (fun x=>siz (α:=au) x.1+siz (α:=aA) x.2.1+siz (α:=List ak) x.2.2+1) fun x=>by kernel_rfl
def ak0:=Xh.mc 6 Ec
theorem FW:fO Tryz.prog QA 6:=.fuel sK (fun n=>rfl) (fun n=>(gY n).2.1) (fun x=>siz (α:=au) x.1+siz (α:=List aA) x.2.1+siz (α:=List ak) x.2.2+1) fun x=>by kernel_rfl
def akZ:=ak0.mc 6 FW
theorem Ea:fO Tryz.prog Ot 6:=.fuel qx (fun n=>rfl) (fun n=>(gY n).2.2.1) (fun x=>siz (α:=au) x.1+siz (α:=aA) x.2.1+siz (α:=List ak) x.2.2+1) fun x=>by kernel_rfl
def akY:=akZ.mc 6 Ea
theorem Ed:fO Tryz.prog Ov 6:=.fuel qA (fun n=>rfl) (fun n=>(gY n).2.2.2) (fun x=>siz (α:=au) x.1+siz (α:=aA) x.2.1+siz (α:=List ak) x.2.2+1) fun x=>by kernel_rfl
def aiV:=akY.mc 6 Ed
def aiU:=aiV.f (s:=Xz) (snd aiV.mo [] Tryz.f8)
def aiT:=aiU.f (s:=Ve) (snd aiU [(3,.c 23 [.t 3 (owE .read 0),.t 7 (roL .read),.t 8 roI,.t 9 roI] [] [])] Tryz.f32)
def aiS:=aiT.f (s:=Qz) (snd aiT [(3,.c 33 [.t 5 (owE .read 0),.t 12 (roL .read),.t 13 roI,.t 14 roI] [] [])] Tryz.f9)
def aiR:=aiS.f (s:=Hz) (snd aiS [(4,.c 31 [.b 2 0 (roL .cell),.b 3 0 (roL .cell),.t 5 roI] [(2,1),(3,1)] [(2,2,0),(3,3,0)])] Tryz.f142)
def aiQ:=aiR.f (s:=YF) (snd aiR [(4,.c 26 [.t 0 (roL .str),.t 1 (roL .str),.t 5 roI] [] [])] Tryz.f129)
def aiP:=aiQ.f (s:=abL) (snd aiQ [(4,.c 26 [.t 0 (roL .int),.t 1 (roL .int),.t 5 roI] [] [])] Tryz.f130)
def aiO:=aiP.f (s:=TV) (snd aiP [(4,.c 26 [.t 0 (roL .origin),.t 1 (roL .origin),.t 5 roI] [] [])] Tryz.f131)
theorem zl:∀n,Sound Tryz.prog (Dq n)
 | 0=>(fun w S args x y h=>by cases h)
 | n+1=>
  have ih:=zl n
  snd (s:=Dq (n+1)) (aiO.f ih) [(9,.c 121 [.t 2 (roE .bool),.b 3 0 roI,.b 3 1 roI,.b 3 2 roI,.b 3 3 roS,.b 3 4 (roL .val),.b 3 5 (roL .str),.b 3 6 (roL .row),.b 4 0 roI,.b 4 1 roI,.b 4 2 roI,.b 4 3 roS,.b 4 4 (roL .val),.b 4 5 (roL .str),.b 4 6 (roL .row),.t 8 roI] [(3,7),(4,7)] [(3,3,0),(4,4,0)]),(4,.c 121 [.t 2 (roE .bool),.b 3 0 roI,.b 3 1 roI,.b 3 2 roI,.b 3 3 roS,.b 3 4 (roL .val),.b 3 5 (roL .str),.b 3 6 (roL .row),.b 4 0 roI,.b 4 1 roI,.b 4 2 roI,.b 4 3 roS,.b 4 4 (roL .val),.b 4 5 (roL .str),.b 4 6 (roL .row),.t 7 roI] [(3,7),(4,7)] [(3,3,0),(4,4,0)])] Tryz.f85
theorem PS:Sound Tryz.prog abE:=.fuel Dq (fun n=>rfl) zl (fun x=>siz (α:=af) x.1+siz (α:=af) x.2.1+1) fun x=>by kernel_rfl
def aiN:=aiO.f PS
def aiM:=aiN.f (s:=Qb) (snd aiN [] Tryz.f34)
def aiL:=aiM.f (s:=YL) (snd aiM [] Tryz.f216)
def aiK:=aiL.f (s:=YE) (snd aiL [(4,.c 41 [.t 0 (roL .read),.t 1 (roL .read),.t 5 roI] [] [])] Tryz.f191)
def aiJ:=aiK.f (s:=VX) (snd aiK [(4,.c 55 [.t 0 (roL .tape),.t 1 (roL .tape),.t 5 roI] [] [])] Tryz.f143)
def aiI:=aiJ.f (s:=HY) (snd aiJ [] Tryz.f97)
def aiH:=aiI.f (s:=VR) (snd aiI [] Tryz.f39)
def aiG:=aiH.f (s:=VS) (snd aiH [] Tryz.f12)
def aiF:=aiG.f (s:=PL) (snd aiG [] Tryz.f10)
def aiE:=aiF.f (s:=abz) (snd aiF [(2,.c 27 [.t 0 (roL .binding),.t 1 roS,.b 4 0 roI,.b 4 1 roI,.b 4 2 roI,.b 4 3 roS,.b 4 4 (owE .val 0),.b 4 5 (owE .str 1),.b 4 6 (owE .row 2),.t 5 roI] [(4,7)] [(4,4,0)])] Tryz.f87)
def aiD:=aiE.f (s:=YD) (snd aiE [(2,.c 31 [.t 0 (roL .val),.b 2 0 roI,.b 2 1 roI,.b 2 2 roI,.b 2 3 roS,.b 2 4 (owE .val 0),.b 2 5 (owE .str 1),.b 2 6 (owE .row 3),.t 4 roI] [(2,7)] [(2,2,0)])] Tryz.f132)
def aiC:=aiD.f (s:=TP) (snd aiD [(3,.c 23 [.t 0 (roL .val),.b 2 0 roI,.b 2 1 roI,.b 2 2 roI,.b 2 3 roS,.b 2 4 (owE .val 0),.b 2 5 (owE .str 1),.b 2 6 (owE .row 4),.b 3 0 roI,.b 3 1 roI,.b 3 2 roI,.b 3 3 roS,.b 3 4 (owE .val 5),.b 3 5 (owE .str 6),.b 3 6 (owE .row 7),.t 4 roI] [(2,7),(3,7)] [(2,2,0),(3,3,0)])] Tryz.f133)
def aiB:=aiC.f (s:=Uk) (snd aiC [(5,.c 40 [.t 0 (roL .val),.b 2 0 roI,.b 2 1 roI,.b 2 2 roI,.b 2 3 roS,.b 2 4 (owE .val 0),.b 2 5 (owE .str 1),.b 2 6 (owE .row 4),.t 5 roI] [(2,7)] [(2,2,0)])] Tryz.f89)
theorem uz:∀n,Sound Tryz.prog (uX n)
 | 0=>(fun w S args x y h=>by cases h)
 | n+1=>
  have ih:=uz n
  snd (s:=uX (n+1)) (aiB.f ih) [(4,.c 35 [.b 1 0 roI,.b 1 1 roI,.b 1 2 roS,.b 1 3 (roL .expr),.t 3 roI] [(1,4)] [(1,1,0)])] Tryz.f134
theorem Hy:Sound Tryz.prog Uh:=.fuel uX (fun n=>rfl) uz (fun x=>siz (α:=aA) x+1) fun x=>by kernel_rfl
def aiA:=aiB.f Hy
def aiz:=aiA.f (s:=VU) (snd aiA [] Tryz.f175)
def aiy:=aiz.f (s:=Ia) (snd aiz [] Tryz.f141)
def aix:=aiy.f (s:=adB) (snd aiy [(8,.c 50 [.b 1 0 roI,.b 1 1 roI,.b 1 2 roI,.b 1 3 roS,.b 1 4 (roL .val),.b 1 5 (roL .str),.b 1 6 (roL .row),.b 2 0 roI,.b 2 1 roI,.b 2 2 roI,.b 2 3 roS,.b 2 4 (owE .val 0),.b 2 5 (owE .str 4),.b 2 6 (owE .row 6),.b 5 0 roI,.b 5 1 roI,.b 5 2 roI,.b 5 3 roS,.b 5 4 (owE .val 7),.b 5 5 (owE .str 8),.b 5 6 (owE .row 11),.t 6 roI] [(1,7),(2,7),(5,7)] [(1,1,0),(2,2,0),(5,5,0)])] Tryz.f176)
def aiw:=aix.f (s:=YC) (snd aix [(5,.c 34 [.t 0 (roL .val),.t 1 (roL .int),.b 4 0 roI,.b 4 1 roI,.b 4 2 roI,.b 4 3 roS,.b 4 4 (owE .val 0),.b 4 5 (owE .str 1),.b 4 6 (owE .row 2),.t 8 roI] [(4,7)] [(4,4,0)])] Tryz.f208)
def aiv:=aiw.f (s:=Ui) (snd aiw [] Tryz.f177)
def aiu:=aiv.f (s:=abB) (snd aiv [] Tryz.f209)
def ait:=aiu.f (s:=adD) (snd aiu [] Tryz.f180)
def ais:=ait.f (s:=abw) (snd ait [(8,.c 56 [.b 2 0 roI,.b 2 1 roI,.b 2 2 roI,.b 2 3 roS,.b 2 4 (roL .val),.b 2 5 (roL .str),.b 2 6 (roL .row),.b 3 0 roI,.b 3 1 roI,.b 3 2 roI,.b 3 3 roS,.b 3 4 (roL .val),.b 3 5 (roL .str),.b 3 6 (roL .row),.b 4 0 roI,.b 4 1 roI,.b 4 2 roI,.b 4 3 roS,.b 4 4 (owE .val 0),.b 4 5 (owE .str 1),.b 4 6 (owE .row 6),.b 7 0 roI,.b 7 1 roI,.b 7 2 roI,.b 7 3 roS,.b 7 4 (owE .val 8),.b 7 5 (owE .str 10),.b 7 6 (owE .row 11),.t 8 roI] [(2,7),(3,7),(4,7),(7,7)] [(2,2,0),(3,3,0),(4,4,0),(7,7,0)])] Tryz.f178)
def air:=ais.f (s:=adK) (snd ais [] Tryz.f210)
def aiq:=air.f (s:=abx) (snd air [] Tryz.f179)
def aip:=aiq.f (s:=V9) (snd aiq [] Tryz.f181)
def aio:=aip.f (s:=TL) (snd aip [(4,.c 36 [.t 0 roS,.t 1 (roE .u8),.t 5 (owE .str 0),.t 6 roI,.t 7 roI] [] [])] Tryz.f211)
def ain:=aio.f (s:=Y3) (snd aio [(2,.c 19 [.t 0 (roL .str),.t 1 roS,.t 5 roI] [] [])] Tryz.f47)
def aim:=ain.f (s:=MS) (snd ain [] Tryz.f212)
def ail:=aim.f (s:=ML) (snd aim [(16,.c 95 [.b 3 0 roI,.b 3 1 roI,.b 3 2 roI,.b 3 3 roS,.b 3 4 (roL .val),.b 3 5 (roL .str),.b 3 6 (roL .row),.b 4 0 roI,.b 4 1 roI,.b 4 2 roI,.b 4 3 roS,.b 4 4 (owE .val 0),.b 4 5 (owE .str 1),.b 4 6 (owE .row 6),.t 7 (roL .str),.b 8 0 roI,.b 8 1 roI,.b 8 2 roI,.b 8 3 roS,.b 8 4 (owE .val 7),.b 8 5 (roL .str),.b 8 6 (owE .row 9),.t 10 roI,.b 11 0 (owE .int 10),.b 11 1 (owE .origin 12),.t 12 roI] [(3,7),(4,7),(8,7),(11,2)] [(3,3,0),(4,4,0),(8,8,0),(11,11,0)]),(12,.c 95 [.b 3 0 roI,.b 3 1 roI,.b 3 2 roI,.b 3 3 roS,.b 3 4 (roL .val),.b 3 5 (roL .str),.b 3 6 (roL .row),.b 4 0 roI,.b 4 1 roI,.b 4 2 roI,.b 4 3 roS,.b 4 4 (owE .val 0),.b 4 5 (owE .str 1),.b 4 6 (owE .row 6),.t 7 (roL .str),.b 8 0 roI,.b 8 1 roI,.b 8 2 roI,.b 8 3 roS,.b 8 4 (owE .val 7),.b 8 5 (roL .str),.b 8 6 (owE .row 9),.t 10 roI] [(3,7),(4,7),(8,7)] [(3,3,0),(4,4,0),(8,8,0)]),(7,.c 95 [.b 3 0 roI,.b 3 1 roI,.b 3 2 roI,.b 3 3 roS,.b 3 4 (roL .val),.b 3 5 (roL .str),.b 3 6 (roL .row),.b 4 0 roI,.b 4 1 roI,.b 4 2 roI,.b 4 3 roS,.b 4 4 (owE .val 0),.b 4 5 (owE .str 1),.b 4 6 (owE .row 6),.t 7 (roL .str),.b 8 0 roI,.b 8 1 roI,.b 8 2 roI,.b 8 3 roS,.b 8 4 (owE .val 7),.b 8 5 (roL .str),.b 8 6 (owE .row 9),.t 9 roI] [(3,7),(4,7),(8,7)] [(3,3,0),(4,4,0),(8,8,0)])] Tryz.f182)
def aik:=ail.f (s:=Wq) (snd ail [(11,.c 56 [.b 3 0 roI,.b 3 1 roI,.b 3 2 roI,.b 3 3 roS,.b 3 4 (roL .val),.b 3 5 (roL .str),.b 3 6 (roL .row),.b 4 0 roI,.b 4 1 roI,.b 4 2 roI,.b 4 3 roS,.b 4 4 (owE .val 0),.b 4 5 (owE .str 1),.b 4 6 (owE .row 6),.t 7 roI,.b 8 0 roI,.b 8 1 roI,.b 8 2 roI,.b 8 3 roS,.b 8 4 (owE .val 7),.b 8 5 (owE .str 9),.b 8 6 (owE .row 10),.t 9 roI] [(3,7),(4,7),(8,7)] [(3,3,0),(4,4,0),(8,8,0)])] Tryz.f183)
def aij:=aik.f (s:=TR) (snd aik [(3,.c 35 [.b 1 0 roI,.b 1 1 roI,.b 1 2 roI,.b 1 3 roS,.b 1 4 (roL .val),.b 1 5 (roL .str),.b 1 6 (roL .row),.t 4 (owE .int 0),.t 5 roI] [(1,7)] [(1,1,0)])] Tryz.f213)
def aii:=aij.f (s:=YA) (snd aij [(8,.c 65 [.b 3 0 roI,.b 3 1 roI,.b 3 2 roI,.b 3 3 roS,.b 3 4 (roL .val),.b 3 5 (roL .str),.b 3 6 (roL .row),.b 4 0 roI,.b 4 1 roI,.b 4 2 roI,.b 4 3 roS,.b 4 4 (owE .val 0),.b 4 5 (owE .str 1),.b 4 6 (owE .row 6),.b 7 0 roI,.b 7 1 roI,.b 7 2 roI,.b 7 3 roS,.b 7 4 (owE .val 8),.b 7 5 (owE .str 9),.b 7 6 (owE .row 10),.t 8 roI] [(3,7),(4,7),(7,7)] [(3,3,0),(4,4,0),(7,7,0)])] Tryz.f184)
def aif:=aii.f (s:=PN) (snd aii [(9,.c 66 [.b 4 0 roI,.b 4 1 roI,.b 4 2 roI,.b 4 3 roS,.b 4 4 (roL .val),.b 4 5 (roL .str),.b 4 6 (roL .row),.b 5 0 roI,.b 5 1 roI,.b 5 2 roI,.b 5 3 roS,.b 5 4 (roL .val),.b 5 5 (roL .str),.b 5 6 (roL .row),.b 6 0 roI,.b 6 1 roI,.b 6 2 roI,.b 6 3 roS,.b 6 4 (owE .val 0),.b 6 5 (owE .str 1),.b 6 6 (owE .row 2),.t 9 roI,.b 10 0 roI,.b 10 1 roI,.b 10 2 roI,.b 10 3 roS,.b 10 4 (owE .val 8),.b 10 5 (owE .str 9),.b 10 6 (owE .row 11),.t 11 roI] [(4,7),(5,7),(6,7),(10,7)] [(4,4,0),(5,5,0),(6,6,0),(10,10,0)])] Tryz.f185)
def aie:=aif.f (s:=YB) (snd aif [(4,.c 87 [.t 0 (roL .origin),.t 1 (roL .origin),.t 5 (owE .origin 0),.t 6 roI,.t 7 roI] [] [])] Tryz.f225)
def aid:=aie.s (s:=adF) (ssd aie [(4,.c 80 [.t 0 (roL .row),.t 1 roI,.t 2 roI,.t 3 (roL .origin),.t 9 (.own (.base .row) false true 0),.t 10 (roE .bool),.t 11 roI] [] [])] Tryz.f214)
def aic:=aid.s (s:=Wj) (ssd aid [(14,.c 105 [.b 6 0 roI,.b 6 1 roI,.b 6 2 roI,.b 6 3 roS,.b 6 4 (owE .val 0),.b 6 5 (owE .str 1),.b 6 6 (owE .row 2),.b 11 0 roI,.b 11 1 roI,.b 11 2 roI,.b 11 3 roS,.b 11 4 (owE .val 8),.b 11 5 (owE .str 9),.b 11 6 (.own (.base .row) false true 10),.t 13 roI] [(6,7),(11,7)] [(6,6,0),(11,11,0)]),(10,.c 105 [.b 5 0 roI,.b 5 1 roI,.b 5 2 roI,.b 5 3 roS,.b 5 4 (roL .val),.b 5 5 (roL .str),.b 5 6 (roL .row),.b 6 0 roI,.b 6 1 roI,.b 6 2 roI,.b 6 3 roS,.b 6 4 (owE .val 0),.b 6 5 (owE .str 1),.b 6 6 (owE .row 2),.t 9 roI,.t 10 roI,.b 11 0 roI,.b 11 1 roI,.b 11 2 roI,.b 11 3 roS,.b 11 4 (owE .val 8),.b 11 5 (owE .str 9),.b 11 6 (.own (.base .row) false true 10),.t 12 roI] [(5,7),(6,7),(11,7)] [(5,5,0),(6,6,0),(11,11,0)])] Tryz.f186)
def aib:=aic.f (s:=abA) (snd aic [] Tryz.f215)
def aia:=aib.f (s:=abR) (snd aib [(18,.c 125 [.b 4 0 roI,.b 4 1 roI,.b 4 2 roI,.b 4 3 roS,.b 4 4 (roL .val),.b 4 5 (roL .str),.b 4 6 (roL .row),.b 5 0 roI,.b 5 1 roI,.b 5 2 roI,.b 5 3 roS,.b 5 4 (roL .val),.b 5 5 (roL .str),.b 5 6 (roL .row),.b 6 0 roI,.b 6 1 roI,.b 6 2 roI,.b 6 3 roS,.b 6 4 (owE .val 0),.b 6 5 (owE .str 1),.b 6 6 (owE .row 2),.t 9 roI,.t 10 roI,.b 11 0 roI,.b 11 1 roI,.b 11 2 roI,.b 11 3 roS,.b 11 4 (owE .val 8),.b 11 5 (owE .str 9),.b 11 6 (owE .row 10),.t 12 roI,.t 13 roI] [(4,7),(5,7),(6,7),(11,7)] [(4,4,0),(5,5,0),(6,6,0),(11,11,0)]),(15,.c 125 [.b 4 0 roI,.b 4 1 roI,.b 4 2 roI,.b 4 3 roS,.b 4 4 (roL .val),.b 4 5 (roL .str),.b 4 6 (roL .row),.b 5 0 roI,.b 5 1 roI,.b 5 2 roI,.b 5 3 roS,.b 5 4 (roL .val),.b 5 5 (roL .str),.b 5 6 (roL .row),.b 6 0 roI,.b 6 1 roI,.b 6 2 roI,.b 6 3 roS,.b 6 4 (owE .val 0),.b 6 5 (owE .str 1),.b 6 6 (owE .row 2),.t 9 roI,.t 10 roI,.b 11 0 roI,.b 11 1 roI,.b 11 2 roI,.b 11 3 roS,.b 11 4 (owE .val 8),.b 11 5 (owE .str 9),.b 11 6 (owE .row 10),.t 12 roI] [(4,7),(5,7),(6,7),(11,7)] [(4,4,0),(5,5,0),(6,6,0),(11,11,0)])] Tryz.f187)
def ah9:=aia.f (s:=Um) (snd (aia.tr.hol [106,108]) [(13,.c 115 [.b 7 0 roI,.b 7 1 roI,.b 7 2 roI,.b 7 3 roS,.b 7 4 (roL .val),.b 7 5 (roL .str),.b 7 6 (roL .row),.b 8 0 roI,.b 8 1 roI,.b 8 2 roI,.b 8 3 roS,.b 8 4 (owE .val 0),.b 8 5 (owE .str 1),.b 8 6 (owE .row 2),.t 11 roI,.t 12 roI,.b 13 0 roI,.b 13 1 roI,.b 13 2 roI,.b 13 3 roS,.b 13 4 (.tree (.base .val) 3),.b 13 5 (owE .str 10),.b 13 6 (.tree (.base .row) 11),.t 14 roI] [(7,7),(8,7),(13,7)] [(7,7,0),(8,8,0),(13,13,0)])] Tryz.f188)
def ah8:=ah9.f (s:=JL) (snd ah9 [] Tryz.f135)
def ah7:=ah8.f (s:=Wl) (snd ah8 [(2,.c 26 [.t 0 (roL .read),.b 3 0 roI,.b 3 1 roI,.b 3 2 roI,.b 3 3 roS,.b 3 4 roI,.b 3 5 roI,.b 3 6 roI,.b 3 7 roS,.b 3 8 (roL .val),.b 3 9 (roL .str),.b 3 10 (roL .row),.b 4 0 roI,.b 4 1 roI,.b 4 2 roI,.b 4 3 roS,.b 4 4 (owE .val 0),.b 4 5 (owE .str 1),.b 4 6 (owE .row 2),.t 6 roI] [(3,11),(4,7)] [(3,3,0),(4,4,0)])] Tryz.f189)
end
end Go.Proofs.YtjbajpfonnnfoaaGreatDoor
