import Derived.Test.YtbbmkcioplbhbaaGreatDoorDen3
/- The functions compute their models, by gen.py. -/
namespace Go.Proofs.YtbbmkcioplbhbaaGreatDoor
noncomputable section
open Go.Abs Go.Proofs
set_option maxRecDepth 100000
def amv:=amw.f (s:=ahl) (snd amw [(4,.c 27 [.t 0 (roL .cell),.t 1 (roL .cell),.t 5 roI] [] [])] Tryz.f101)
def amu:=amv.f (s:=Y6) (snd amv [] Tryz.f48)
def ams:=amu.f (s:=ajN) (snd amu [] Tryz.f102)
def amr:=ams.f (s:=ahf) (snd ams [(4,.c 27 [.t 0 (roL .tape),.t 1 (roL .tape),.t 5 roI] [] [])] Tryz.f49)
def amq:=amr.f (s:=Y9) (snd amr [] Tryz.f13)
theorem NK:je Tryz.prog adD:=mnd amq [(2,{ n:=19,ty:=.base .int,si:=5,sk:=1 })] Tryz.f55
def amo:=amq.m NK
def amn:=amo.f (s:=adB) (snd amo [(4,.c 20 [.t 0 roI,.t 3 roS] [] [])] Tryz.f57)
theorem Gt:je Tryz.prog Us:=mnd amn [(2,{ n:=20,ty:=.base .str,si:=5,sk:=1 })] Tryz.f107
def amm:=amn.m Gt
theorem Gu:je Tryz.prog Ut:=mnd amm [(2,{ n:=27,ty:=.base .origin,si:=5,sk:=1 })] Tryz.f152
def aml:=amm.m Gu
theorem NI:je Tryz.prog adC:=mnd aml [(2,{ n:=27,ty:=.base .row,si:=5,sk:=1 })] Tryz.f108
def amk:=aml.m NI
theorem uF:∀k,je Tryz.prog (Ff k)
 | 0=>fun w u x n r fps h=>(by cases h)
 | k+1=>mnd (m:=Ff (k+1)) (amk.m (uF k)) [(2,{ n:=63,ty:=.base .val,si:=5,sk:=1 })] Tryz.f106
theorem IC:je Tryz.prog Yf:=je.fuel (fid:=106) (sh:=⟨false,.list (.base .val)⟩) (G:=fun k x n=>kC k x n) (f:=fun x n=>zx x n) uF (fun x=>siz (α:=List aC) x+1) (fun _ _=>rfl)
def amj:=amk.m IC
theorem Kt:je Tryz.prog aaI:=mnd amj [(2,{ n:=99,ty:=.base .read,si:=5,sk:=1 })] Tryz.f56
def ami:=amj.m Kt
theorem QJ:je Tryz.prog agH:=mnd ami [(2,{ n:=150,ty:=.base .op,si:=5,sk:=1 })] Tryz.f18
def amh:=ami.m QJ
theorem Ku:je Tryz.prog aaJ:=mnd amh [(2,{ n:=57,ty:=.base .cell,si:=5,sk:=1 })] Tryz.f105
def amg:=amh.m Ku
theorem EQ:je Tryz.prog QK:=mnd amg [] Tryz.f53
def amf:=amg.m EQ
theorem Kr:je Tryz.prog aaH:=mnd amf [(2,{ n:=34,ty:=.base .tape,si:=5,sk:=1 })] Tryz.f54
def ame:=amf.m Kr
theorem ER:je Tryz.prog QL:=mnd ame [] Tryz.f16
def amd:=ame.m ER
theorem Uu:je Tryz.prog ai7:=mnd amd [] Tryz.f17
def amc:=amd.m Uu
def ama:=amc.f (s:=abt) (snd amc [(2,.c 69 [.t 0 (roL .cell),.t 1 roI,.t 5 roI] [] [])] Tryz.f109)
def al9:=ama.f (s:=RX) (snd ama [] Tryz.f58)
def al8:=al9.f (s:=UY) (snd al9 [(2,.c 22 [.t 0 (roL .str),.t 1 roI,.t 5 roI] [] [])] Tryz.f154)
def al7:=al8.f (s:=aea) (snd al8 [(2,.c 21 [.t 0 (roL .int),.t 1 roI,.t 5 roI] [] [])] Tryz.f111)
def al6:=al7.f (s:=UZ) (snd al7 [(2,.c 31 [.t 0 (roL .origin),.t 1 roI,.t 5 roI] [] [])] Tryz.f197)
def al5:=al6.f (s:=ad9) (snd al6 [(2,.c 31 [.t 0 (roL .row),.t 1 roI,.t 5 roI] [] [])] Tryz.f155)
theorem vV:∀n,Sound Tryz.prog (FD n)
 | 0=>(fun w S args x y h=>by cases h)
 | n+1=>
  have ih:=vV n
  snd (s:=FD (n+1)) (al5.f ih) [(2,.c 77 [.t 0 (roL .val),.t 1 roI,.t 5 roI] [] [])] Tryz.f153
theorem KT:Sound Tryz.prog YV:=fun w S args x y h=>(vV (siz (α:=List aC) x.1+1)) w S args x y h
def al4:=al5.f KT
def al3:=al4.f (s:=abr) (snd al4 [(2,.c 121 [.t 0 (roL .read),.t 1 roI,.t 5 roI] [] [])] Tryz.f110)
def al2:=al3.f (s:=abq) (snd al3 [(2,.c 40 [.t 0 (roL .tape),.t 1 roI,.t 5 roI] [] [])] Tryz.f59)
def al1:=al2.f (s:=ag3) (snd al2 [(2,.c 184 [.t 0 (roL .op),.t 1 roI,.t 5 roI] [] [])] Tryz.f60)
def apy:=al1.f (s:=RY) (snd al1 [] Tryz.f19)
theorem Bc:Sound Tryz.prog Ju:=snd apy.tr [] Tryz.f3
end
end Go.Proofs.YtbbmkcioplbhbaaGreatDoor
