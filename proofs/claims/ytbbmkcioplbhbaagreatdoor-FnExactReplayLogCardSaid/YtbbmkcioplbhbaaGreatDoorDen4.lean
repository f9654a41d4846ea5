import Derived.Test.YtbbmkcioplbhbaaGreatDoorDen3
/- The functions compute their models, by gen.py. -/
namespace Go.Proofs.YtbbmkcioplbhbaaGreatDoor
noncomputable section
open Go.Abs Go.Proofs
set_option maxRecDepth 100000
def anw:=anx.f (s:=ahQ) (snd anx [(4,.c 27 [.t 0 (roL .cell),.t 1 (roL .cell),.t 5 roI] [] [])] Tryz.f101)
def anv:=anw.f (s:=Zi) (snd anw [] Tryz.f48)
def anu:=anv.f (s:=aks) (snd anv [] Tryz.f102)
def ant:=anu.f (s:=ahL) (snd anu [(4,.c 27 [.t 0 (roL .tape),.t 1 (roL .tape),.t 5 roI] [] [])] Tryz.f49)
def anr:=ant.f (s:=Zl) (snd ant [] Tryz.f13)
theorem NM:jh Tryz.prog adZ:=mnd anr [(2,{ n:=19,ty:=.base .int,si:=5,sk:=1 })] Tryz.f55
def anq:=anr.m NM
def anp:=anq.f (s:=adX) (snd anq [(4,.c 20 [.t 0 roI,.t 3 roS] [] [])] Tryz.f57)
theorem Gx:jh Tryz.prog Ux:=mnd anp [(2,{ n:=20,ty:=.base .str,si:=5,sk:=1 })] Tryz.f107
def ano:=anp.m Gx
theorem Gy:jh Tryz.prog Uy:=mnd ano [(2,{ n:=27,ty:=.base .origin,si:=5,sk:=1 })] Tryz.f152
def ann:=ano.m Gy
theorem NJ:jh Tryz.prog adY:=mnd ann [(2,{ n:=27,ty:=.base .row,si:=5,sk:=1 })] Tryz.f108
def anm:=ann.m NJ
theorem uG:∀k,jh Tryz.prog (Fp k)
 | 0=>fun w u x n r fps h=>(by cases h)
 | k+1=>mnd (m:=Fp (k+1)) (anm.m (uG k)) [(2,{ n:=63,ty:=.base .val,si:=5,sk:=1 })] Tryz.f106
theorem IJ:jh Tryz.prog Yq:=jh.fuel (fid:=106) (sh:=⟨false,.list (.base .val)⟩) (G:=fun k x n=>kE k x n) (f:=fun x n=>zL x n) uG (fun x=>siz (α:=List aF) x+1) (fun _ _=>rfl)
def anl:=anm.m IJ
theorem Kv:jh Tryz.prog aaZ:=mnd anl [(2,{ n:=99,ty:=.base .read,si:=5,sk:=1 })] Tryz.f56
def ank:=anl.m Kv
theorem QR:jh Tryz.prog ahb:=mnd ank [(2,{ n:=150,ty:=.base .op,si:=5,sk:=1 })] Tryz.f18
def anj:=ank.m QR
theorem Ky:jh Tryz.prog aa0:=mnd anj [(2,{ n:=57,ty:=.base .cell,si:=5,sk:=1 })] Tryz.f105
def ani:=anj.m Ky
theorem EX:jh Tryz.prog QS:=mnd ani [] Tryz.f53
def anh:=ani.m EX
theorem Ku:jh Tryz.prog aaY:=mnd anh [(2,{ n:=34,ty:=.base .tape,si:=5,sk:=1 })] Tryz.f54
def ang:=anh.m Ku
theorem EY:jh Tryz.prog QT:=mnd ang [] Tryz.f16
def anf:=ang.m EY
theorem Uz:jh Tryz.prog ajI:=mnd anf [] Tryz.f17
def ane:=anf.m Uz
def anc:=ane.f (s:=abL) (snd ane [(2,.c 69 [.t 0 (roL .cell),.t 1 roI,.t 5 roI] [] [])] Tryz.f109)
def anb:=anc.f (s:=Sv) (snd anc [] Tryz.f58)
def ana:=anb.f (s:=U4) (snd anb [(2,.c 22 [.t 0 (roL .str),.t 1 roI,.t 5 roI] [] [])] Tryz.f154)
def am9:=ana.f (s:=aeA) (snd ana [(2,.c 21 [.t 0 (roL .int),.t 1 roI,.t 5 roI] [] [])] Tryz.f111)
def am8:=am9.f (s:=U5) (snd am9 [(2,.c 31 [.t 0 (roL .origin),.t 1 roI,.t 5 roI] [] [])] Tryz.f197)
def am7:=am8.f (s:=aez) (snd am8 [(2,.c 31 [.t 0 (roL .row),.t 1 roI,.t 5 roI] [] [])] Tryz.f155)
theorem vX:∀n,Sound Tryz.prog (FN n)
 | 0=>(fun w S args x y h=>by cases h)
 | n+1=>
  have ih:=vX n
  snd (s:=FN (n+1)) (am7.f ih) [(2,.c 77 [.t 0 (roL .val),.t 1 roI,.t 5 roI] [] [])] Tryz.f153
theorem KW:Sound Tryz.prog Y8:=fun w S args x y h=>(vX (siz (α:=List aF) x.1+1)) w S args x y h
def am6:=am7.f KW
def am5:=am6.f (s:=abK) (snd am6 [(2,.c 121 [.t 0 (roL .read),.t 1 roI,.t 5 roI] [] [])] Tryz.f110)
def am4:=am5.f (s:=abJ) (snd am5 [(2,.c 40 [.t 0 (roL .tape),.t 1 roI,.t 5 roI] [] [])] Tryz.f59)
def am3:=am4.f (s:=ahz) (snd am4 [(2,.c 184 [.t 0 (roL .op),.t 1 roI,.t 5 roI] [] [])] Tryz.f60)
def am2:=am3.f (s:=Sz) (snd am3 [] Tryz.f19)
theorem Bf:Sound Tryz.prog Jy:=snd am2.tr [] Tryz.f3
def am1:=am2.f Bf
def am0:=am1.f (s:=ade) (snd am1 [(2,.c 19 [.t 0 (roL .int),.t 3 roI] [] [])] Tryz.f156)
def amZ:=am0.f (s:=XQ) (snd am0 [] Tryz.f112)
def amY:=amZ.f (s:=aac) (snd amZ [] Tryz.f113)
def amX:=amY.f (s:=Ud) (snd amY [(2,.c 36 [.t 0 (roL .op),.t 3 roI] [] [])] Tryz.f61)
def amW:=amX.f (s:=adG) (snd amX [(3,.c 23 [.t 0 (roL .op),.t 1 roI,.t 5 roI,.t 6 roI] [] [])] Tryz.f114)
def amV:=amW.f (s:=adF) (snd amW [] Tryz.f62)
def amU:=amV.f (s:=aag) (snd amV [(2,.c 31 [.t 0 (roL .op),.b 3 0 roI,.b 3 1 roI,.b 3 2 roI,.b 3 3 (roL .int),.b 3 4 roI,.b 3 5 roI,.b 3 6 roI,.b 3 7 roI,.b 3 8 roI,.b 3 9 roS,.b 3 10 roS,.b 3 11 roI,.b 3 12 roS,.b 3 13 roS,.b 3 14 roI,.b 3 15 roI,.b 3 16 (roL .read),.t 5 roI] [(3,17)] [(3,3,0)])] Tryz.f63)
def amT:=amU.f (s:=XA) (snd amU [(9,.c 56 [.t 0 (roL .op),.b 2 0 (owE .cell 0),.b 2 1 (owE .tape 1),.b 2 2 (owE .op 4),.b 3 0 (owE .cell 5),.b 3 1 (owE .tape 6),.b 3 2 (owE .op 7),.t 4 roI,.t 5 (.own (.base .op) false true 8),.t 6 roI] [(2,3),(3,3)] [(2,2,0),(3,3,0)]),(5,.c 56 [.t 0 (roL .op),.b 2 0 (owE .cell 0),.b 2 1 (owE .tape 1),.b 2 2 (owE .op 4),.b 3 0 (owE .cell 5),.b 3 1 (owE .tape 6),.b 3 2 (owE .op 7),.t 4 roI] [(2,3),(3,3)] [(2,2,0),(3,3,0)])] Tryz.f20)
def amS:=amT.f (s:=YS) (snd amT [(4,.c 81 [.b 1 0 roI,.b 1 1 roI,.b 1 2 roI,.b 1 3 (roL .int),.b 1 4 roI,.b 1 5 roI,.b 1 6 roI,.b 1 7 roI,.b 1 8 roI,.b 1 9 roS,.b 1 10 roS,.b 1 11 roI,.b 1 12 roS,.b 1 13 roS,.b 1 14 roI,.b 1 15 roI,.b 1 16 (roL .read),.t 25 (roL .int),.t 26 roI,.t 27 roI] [(1,17)] [(1,1,0)])] Tryz.f115)
def amR:=amS.f (s:=abr) (snd amS [] Tryz.f116)
def amQ:=amR.f (s:=UU) (snd amR [(2,.c 33 [.t 0 (roL .op),.t 5 (roL .op),.t 6 roI,.t 7 roI] [] [])] Tryz.f64)
def amP:=amQ.f (s:=aew) (snd amQ [(3,.c 22 [.t 1 roI,.t 5 roI,.t 8 (roL .op),.t 9 roI,.t 10 roI] [] [])] Tryz.f117)
def amO:=amP.f (s:=aeu) (snd amP [] Tryz.f65)
def aqA:=amO.f (s:=YF) (snd amO [(10,{ n:=62,its:=[.t 0 (roL .op),.b 2 0 (owE .cell 0),.b 2 1 (owE .tape 1),.b 2 2 (owE .op 4),.b 3 0 (owE .cell 5),.b 3 1 (owE .tape 7),.b 3 2 (owE .op 8),.t 4 (owE .int 9),.t 5 roI,.b 6 0 roI,.b 6 1 roI,.b 6 2 roI,.b 6 3 (roL .int),.b 6 4 roI,.b 6 5 roI,.b 6 6 roI,.b 6 7 roI,.b 6 8 roI,.b 6 9 roS,.b 6 10 roS,.b 6 11 roI,.b 6 12 roS,.b 6 13 roS,.b 6 14 roI,.b 6 15 roI,.b 6 16 (roL .read),.t 7 (.own (.base .op) false true 11),.t 17 (roL .op),.t 18 roI,.t 19 roI,.t 26 roI,.t 27 roI],boxes:=[(2,3),(3,3),(6,17)],ptrs:=[(2,2,0),(3,3,0),(6,6,0)],tls:=[(25,4)] }),(6,.c 62 [.t 0 (roL .op),.b 2 0 (owE .cell 0),.b 2 1 (owE .tape 1),.b 2 2 (owE .op 4),.b 3 0 (owE .cell 5),.b 3 1 (owE .tape 7),.b 3 2 (owE .op 8),.t 4 (owE .int 9),.t 17 (roL .op),.t 18 roI,.t 19 roI] [(2,3),(3,3)] [(2,2,0),(3,3,0)])] Tryz.f21)
theorem Aw:Sound Tryz.prog Hg:=snd aqA.tr [] Tryz.f4
end
end Go.Proofs.YtbbmkcioplbhbaaGreatDoor
