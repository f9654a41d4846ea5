import Derived.Test.YtjbajpfonnnfoaaGreatDoorSrtSrc
/- The functions compute their models, by gen.py. -/
namespace Go.Proofs.YtjbajpfonnnfoaaGreatDoor
noncomputable section
open Go.Abs Go.Proofs
set_option maxRecDepth 100000
def kk61:=kk60.b JH
def kk62:=kk61.b (s:=V8) (bnd kk61 [(4,.c 33 [.b 0 0 (roL .u8),.b 0 1 roI,.b 0 2 roI,.t 3 (.own (.base .binding) false true 0),.t 4 roI,.t 5 roI] [(0,3)] [(0,0,0)])] Tryz.f24)
def kk63:=kk62.b (s:=YR) (bnd kk62 [] Tryz.f66)
def kk64:=kk63.b (s:=YK) (bnd kk63 [(4,.c 34 [.b 0 0 (roL .u8),.b 0 1 roI,.b 0 2 roI,.t 3 (owE .read 0),.t 4 roI,.t 5 roI] [(0,3)] [(0,0,0)])] Tryz.f25)
def kk65:=kk64.b (s:=YS) (bnd kk64 [(5,.c 37 [.b 0 0 (roL .u8),.b 0 1 roI,.b 0 2 roI,.b 2 0 roI,.b 2 1 roI,.b 2 2 (owE .file 0),.b 3 0 roI,.b 3 1 roI,.b 3 2 (owE .file 1),.t 17 (owE .str 4),.t 18 roI,.t 19 roI] [(0,3),(2,3),(3,3)] [(0,0,0),(2,2,0),(3,3,0)])] Tryz.f26)
def kk66:=kk65.f (s:=JK) (snd kk65 [] Tryz.f7)
theorem uI:∀n,Sound Tryz.prog (vk n)
 | 0=>(fun w S args x y h=>by cases h)
 | n+1=>
  have ih:=uI n
  snd (s:=vk (n+1)) (kk66.f ih) [(3,.c 19 [.t 3 roI,.t 7 (roL .expr),.t 8 roI,.t 9 roI] [] [])] Tryz.f69
theorem IB:Sound Tryz.prog UZ:=.fuel vk (fun n=>rfl) uI (fun x=>siz (α:=aA) x+1) fun x=>by kernel_rfl
def kk67:=kk66.f IB
theorem uJ:∀n,Sound Tryz.prog (vw n)
 | 0=>(fun w S args x y h=>by cases h)
 | n+1=>
  have ih:=uJ n
  snd (s:=vw (n+1)) (kk67.f ih) [(3,.c 20 [.t 3 roI,.t 7 (roL .expr),.t 8 roI,.t 9 roI] [] [])] Tryz.f70
theorem IC:Sound Tryz.prog U0:=.fuel vw (fun n=>rfl) uJ (fun x=>siz (α:=aA) x+1) fun x=>by kernel_rfl
def kk68:=kk67.f IC
def kk69:=kk68.f (s:=acs) (snd kk68 [] Tryz.f148)
def kk70:=kk69.f (s:=acz) (snd kk69 [(2,.c 42 [.t 0 roS,.t 3 roI] [] [])] Tryz.f105)
def kk71:=kk70.f (s:=IQ) (snd kk70 [] Tryz.f149)
def kk72:=kk71.f (s:=QB) (snd kk71 [] Tryz.f106)
def kk73:=kk72.f (s:=OA) (snd kk72 [] Tryz.f51)
def kk74:=kk73.f (s:=Oz) (snd kk73 [(2,.c 29 [.t 0 roS,.t 3 roI] [] [])] Tryz.f155)
def kk75:=kk74.f (s:=acB) (snd kk74 [] Tryz.f119)
theorem wZ:∀n,Sound Tryz.prog (yE n)
 | 0=>(fun w S args x y h=>by cases h)
 | n+1=>
  have ih:=wZ n
  snd (s:=yE (n+1)) (kk75.f ih) [(2,.c 18 [.b 1 0 roI,.b 1 1 roI,.b 1 2 roS,.b 1 3 (roL .expr),.t 6 (roL .expr),.t 7 roI,.t 8 roI] [(1,4)] [(1,1,0)])] Tryz.f71
theorem JZ:Sound Tryz.prog XD:=.fuel yE (fun n=>rfl) wZ (fun x=>siz (α:=aA) x+1) fun x=>by kernel_rfl
def kk76:=kk75.f JZ
def kk77:=kk76.f (s:=OB) (snd kk76 [] Tryz.f28)
theorem uM:Sound Tryz.prog QC:=snd kk77 [] Tryz.f29
def kk78:=kk77.f uM
def kk79:=kk78.f (s:=Ol) (snd kk78 [] Tryz.f72)
def kk80:=kk79.f (s:=UX) (snd kk79 [] Tryz.f73)
def aj6:=kk80.f (s:=ZK) (snd kk80 [] Tryz.f83)
theorem nO:∀n,Sound Tryz.prog (vG n)/\Sound Tryz.prog (sQ n)
 | 0=>⟨(fun w S args x y h=>by cases h),(fun w S args x y h=>by cases h)⟩
 | n+1=>
  have ih:=nO n
  ⟨snd (s:=vG (n+1)) ((aj6.f ih.1).f ih.2) [(6,.c 33 [.b 2 0 roI,.b 2 1 roI,.b 2 2 roI,.b 2 3 roS,.b 2 4 (owE .val 0),.b 2 5 (owE .str 4),.b 2 6 (owE .row 6),.b 3 0 roI,.b 3 1 roI,.b 3 2 roI,.b 3 3 roS,.b 3 4 (owE .val 7),.b 3 5 (owE .str 8),.b 3 6 (owE .row 10),.t 18 (roL .row),.t 19 roI,.t 20 roI] [(2,7),(3,7)] [(2,2,0),(3,3,0)])] Tryz.f31,
  snd (s:=sQ (n+1)) ((aj6.f ih.1).f ih.2) [(3,.c 20 [.t 3 (owE .val 0),.t 7 (roL .val),.t 8 roI,.t 9 roI] [] [])] Tryz.f82⟩
theorem IK:Sound Tryz.prog Vd:=.fuel vG (fun n=>rfl) (fun n=>(nO n).1) (fun x=>siz (α:=af) x+1) fun x=>by kernel_rfl
def kk82:=aj6.f IK
theorem F8:Sound Tryz.prog QE:=.fuel sQ (fun n=>rfl) (fun n=>(nO n).2) (fun x=>siz (α:=List af) x+1) fun x=>by kernel_rfl
def kk83:=kk82.f F8
def kk84:=kk83.f (s:=acw) (snd kk83 [(2,.c 27 [.t 0 (roL .binding),.t 1 roS,.b 4 0 roI,.b 4 1 roI,.b 4 2 roI,.b 4 3 roS,.b 4 4 (owE .val 0),.b 4 5 (owE .str 1),.b 4 6 (owE .row 2),.t 5 roI] [(4,7)] [(4,4,0)])] Tryz.f74)
theorem yR:∀n,Sound Tryz.prog (AB n)
 | 0=>(fun w S args x y h=>by cases h)
 | n+1=>
  have ih:=yR n
  snd (s:=AB (n+1)) (kk84.f ih) [(3,.c 20 [.t 3 roI,.t 7 (roL .val),.t 8 roI,.t 9 roI] [] [])] Tryz.f122
theorem OE:Sound Tryz.prog ZJ:=.fuel AB (fun n=>rfl) yR (fun x=>siz (α:=af) x+1) fun x=>by kernel_rfl
def kk85:=kk84.f OE
theorem yQ:Sound Tryz.prog Xv:=snd kk85 [] Tryz.f157
def kk86:=kk85.f yQ
theorem OC:Sound Tryz.prog ZG:=snd kk86 [(2,.c 19 [.t 1 roS,.t 7 (roL .str),.t 8 roI,.t 9 roI] [] [])] Tryz.f108
def kk87:=kk86.f OC
def kk88:=kk87.f (s:=OJ) (snd kk87 [(2,.c 18 [.t 0 (roL .str),.t 5 (roL .str),.t 6 roI,.t 7 roI] [] [])] Tryz.f201)
def kk89:=kk88.f (s:=QF) (snd kk88 [(2,.c 22 [.t 0 (roL .str),.t 5 (roL .str),.t 6 roI,.t 7 roI] [] [])] Tryz.f202)
def kk90:=kk89.f (s:=JS) (snd kk89 [] Tryz.f220)
def kk91:=kk90.f (s:=ZF) (snd kk90 [(15,.c 77 [.b 1 0 roI,.b 1 1 roI,.b 1 2 roI,.b 1 3 roS,.b 1 4 (roL .val),.b 1 5 (roL .str),.b 1 6 (roL .row),.b 4 0 (roL .int),.b 4 1 (roL .origin),.t 20 (roL .row),.t 21 roI,.t 22 roI,.t 45 (roL .origin),.t 46 roI,.t 47 roI] [(1,7),(4,2)] [(1,1,0),(4,4,0)]),(9,.c 77 [.b 1 0 roI,.b 1 1 roI,.b 1 2 roI,.b 1 3 roS,.b 1 4 (roL .val),.b 1 5 (roL .str),.b 1 6 (roL .row),.b 4 0 (roL .int),.b 4 1 (roL .origin),.t 20 (roL .row),.t 21 roI,.t 22 roI,.t 34 (roL .int),.t 35 roI,.t 36 roI] [(1,7),(4,2)] [(1,1,0),(4,4,0)]),(4,.c 77 [.b 1 0 roI,.b 1 1 roI,.b 1 2 roI,.b 1 3 roS,.b 1 4 (roL .val),.b 1 5 (roL .str),.b 1 6 (roL .row),.t 20 (roL .row),.t 21 roI,.t 22 roI] [(1,7)] [(1,1,0)])] Tryz.f194)
theorem qi:∀n,Sound Tryz.prog (oI n)
 | 0=>(fun w S args x y h=>by cases h)
 | n+1=>
  have ih:=qi n
  snd (s:=oI (n+1)) (kk91.f ih) [(1000002,.c 185 [.b 1 0 roI,.b 1 1 roI,.b 1 2 roI,.b 1 3 roS,.b 1 4 (roL .val),.b 1 5 (roL .str),.b 1 6 (roL .row),.t 3 (roE .bool)] [(1,7)] [(1,1,0)]),(1000020,.c 185 [.b 1 0 roI,.b 1 1 roI,.b 1 2 roI,.b 1 3 roS,.b 1 4 (roL .val),.b 1 5 (roL .str),.b 1 6 (roL .row)] [(1,7)] [(1,1,0)]),(15,.c 185 [.b 1 0 roI,.b 1 1 roI,.b 1 2 roI,.b 1 3 roS,.b 1 4 (roL .val),.b 1 5 (roL .str),.b 1 6 (roL .row),.t 124 (roL .val),.t 125 roI,.t 126 roI] [(1,7)] [(1,1,0)])] Tryz.f156
theorem Cj:Sound Tryz.prog JV:=.fuel oI (fun n=>rfl) qi (fun x=>siz (α:=af) x+1) fun x=>by kernel_rfl
def kk92:=kk91.f Cj
def kk93:=kk92.f (s:=JU) (snd kk92 [(2,.c 22 [.b 2 0 roI,.b 2 1 roI,.b 2 2 roI,.b 2 3 roS,.b 2 4 (owE .val 0),.b 2 5 (owE .str 1),.b 2 6 (owE .row 3),.t 6 (roL .val),.t 7 roI,.t 8 roI] [(2,7)] [(2,2,0)])] Tryz.f120)
def kk94:=kk93.f (s:=U4) (snd kk93 [] Tryz.f121)
def kk95:=kk94.f (s:=Vf) (snd kk94 [(5,.c 49 [.t 0 (roL .val),.b 2 0 roI,.b 2 1 roI,.b 2 2 roI,.b 2 3 roS,.b 2 4 (owE .val 0),.b 2 5 (owE .str 1),.b 2 6 (owE .row 4),.t 16 (roL .val),.t 17 roI,.t 18 roI] [(2,7)] [(2,2,0)])] Tryz.f75)
def kk96:=kk95.f (s:=IL) (snd kk95 [] Tryz.f123)
def kk97:=kk96.f (s:=Qv) (snd kk96 [] Tryz.f124)
def kk98:=kk97.f (s:=Qw) (snd kk97 [(4,.c 26 [.t 0 (roL .str),.t 1 (roL .str),.t 12 roI,.t 13 roI] [] [])] Tryz.f195)
def kk99:=kk98.f (s:=ZE) (snd kk98 [(4,.c 26 [.t 0 (roL .int),.t 1 (roL .int),.t 12 roI,.t 13 roI] [] [])] Tryz.f196)
def ajq:=kk99.f (s:=Qy) (snd kk99 [(4,.c 26 [.t 0 (roL .origin),.t 1 (roL .origin),.t 12 roI,.t 13 roI] [] [])] Tryz.f197)
theorem CX:∀n,Sound Tryz.prog (II n)
 | 0=>(fun w S args x y h=>by cases h)
 | n+1=>
  have ih:=CX n
  snd (s:=II (n+1)) (ajq.f ih) [(10,.c 121 [.t 2 (roE .bool),.b 3 0 roI,.b 3 1 roI,.b 3 2 roI,.b 3 3 roS,.b 3 4 (roL .val),.b 3 5 (roL .str),.b 3 6 (roL .row),.b 4 0 roI,.b 4 1 roI,.b 4 2 roI,.b 4 3 roS,.b 4 4 (roL .val),.b 4 5 (roL .str),.b 4 6 (roL .row),.t 83 roI,.t 84 roI] [(3,7),(4,7)] [(3,3,0),(4,4,0)]),(4,.c 121 [.t 2 (roE .bool),.b 3 0 roI,.b 3 1 roI,.b 3 2 roI,.b 3 3 roS,.b 3 4 (roL .val),.b 3 5 (roL .str),.b 3 6 (roL .row),.b 4 0 roI,.b 4 1 roI,.b 4 2 roI,.b 4 3 roS,.b 4 4 (roL .val),.b 4 5 (roL .str),.b 4 6 (roL .row),.t 63 roI,.t 64 roI] [(3,7),(4,7)] [(3,3,0),(4,4,0)])] Tryz.f158
theorem U7:Sound Tryz.prog ae3:=.fuel II (fun n=>rfl) CX (fun x=>siz (α:=af) x.1+siz (α:=af) x.2.1+1) fun x=>by kernel_rfl
def ajp:=ajq.f U7
def ajo:=ajp.f (s:=QD) (snd ajp [] Tryz.f125)
def ajn:=ajo.f (s:=IU) (snd ajo [(1000005,.c 157 [.t 0 roI,.b 4 0 roI,.b 4 1 roI,.b 4 2 roI,.b 4 3 roS,.b 4 4 (roL .val),.b 4 5 (roL .str),.b 4 6 (roL .row),.b 5 0 roI,.b 5 1 roI,.b 5 2 roI,.b 5 3 roS,.b 5 4 (roL .val),.b 5 5 (roL .str),.b 5 6 (roL .row),.b 6 0 roI,.b 6 1 roI,.b 6 2 roI,.b 6 3 roS,.b 6 4 (owE .val 0),.b 6 5 (owE .str 1),.b 6 6 (owE .row 2),.t 9 (roE .bool)] [(4,7),(5,7),(6,7)] [(4,4,0),(5,5,0),(6,6,0)]),(1000006,.c 157 [.t 0 roI,.b 4 0 roI,.b 4 1 roI,.b 4 2 roI,.b 4 3 roS,.b 4 4 (roL .val),.b 4 5 (roL .str),.b 4 6 (roL .row),.b 5 0 roI,.b 5 1 roI,.b 5 2 roI,.b 5 3 roS,.b 5 4 (roL .val),.b 5 5 (roL .str),.b 5 6 (roL .row),.b 6 0 roI,.b 6 1 roI,.b 6 2 roI,.b 6 3 roS,.b 6 4 (owE .val 0),.b 6 5 (owE .str 1),.b 6 6 (owE .row 2),.t 9 (roE .bool),.t 10 (roE .bool)] [(4,7),(5,7),(6,7)] [(4,4,0),(5,5,0),(6,6,0)]),(1000007,.c 157 [.t 0 roI,.b 4 0 roI,.b 4 1 roI,.b 4 2 roI,.b 4 3 roS,.b 4 4 (roL .val),.b 4 5 (roL .str),.b 4 6 (roL .row),.b 5 0 roI,.b 5 1 roI,.b 5 2 roI,.b 5 3 roS,.b 5 4 (roL .val),.b 5 5 (roL .str),.b 5 6 (roL .row),.b 6 0 roI,.b 6 1 roI,.b 6 2 roI,.b 6 3 roS,.b 6 4 (owE .val 0),.b 6 5 (owE .str 1),.b 6 6 (owE .row 2),.t 9 (roE .bool),.t 10 (roE .bool),.t 11 (roE .bool)] [(4,7),(5,7),(6,7)] [(4,4,0),(5,5,0),(6,6,0)]),(1000008,.c 157 [.t 0 roI,.b 4 0 roI,.b 4 1 roI,.b 4 2 roI,.b 4 3 roS,.b 4 4 (roL .val),.b 4 5 (roL .str),.b 4 6 (roL .row),.b 5 0 roI,.b 5 1 roI,.b 5 2 roI,.b 5 3 roS,.b 5 4 (roL .val),.b 5 5 (roL .str),.b 5 6 (roL .row),.b 6 0 roI,.b 6 1 roI,.b 6 2 roI,.b 6 3 roS,.b 6 4 (owE .val 0),.b 6 5 (owE .str 1),.b 6 6 (owE .row 2),.t 9 (roE .bool),.t 10 (roE .bool),.t 11 (roE .bool),.t 45 (roE .bool)] [(4,7),(5,7),(6,7)] [(4,4,0),(5,5,0),(6,6,0)]),(1000010,.c 157 [.t 0 roI,.b 4 0 roI,.b 4 1 roI,.b 4 2 roI,.b 4 3 roS,.b 4 4 (roL .val),.b 4 5 (roL .str),.b 4 6 (roL .row),.b 5 0 roI,.b 5 1 roI,.b 5 2 roI,.b 5 3 roS,.b 5 4 (roL .val),.b 5 5 (roL .str),.b 5 6 (roL .row),.b 6 0 roI,.b 6 1 roI,.b 6 2 roI,.b 6 3 roS,.b 6 4 (owE .val 0),.b 6 5 (owE .str 1),.b 6 6 (owE .row 2),.t 9 (roE .bool),.t 10 (roE .bool),.t 11 (roE .bool),.t 57 (roE .bool)] [(4,7),(5,7),(6,7)] [(4,4,0),(5,5,0),(6,6,0)]),(1000014,.c 157 [.t 0 roI,.b 4 0 roI,.b 4 1 roI,.b 4 2 roI,.b 4 3 roS,.b 4 4 (roL .val),.b 4 5 (roL .str),.b 4 6 (roL .row),.b 5 0 roI,.b 5 1 roI,.b 5 2 roI,.b 5 3 roS,.b 5 4 (roL .val),.b 5 5 (roL .str),.b 5 6 (roL .row),.b 6 0 roI,.b 6 1 roI,.b 6 2 roI,.b 6 3 roS,.b 6 4 (owE .val 0),.b 6 5 (owE .str 1),.b 6 6 (owE .row 2),.t 9 (roE .bool),.t 10 (roE .bool),.t 78 (roE .bool)] [(4,7),(5,7),(6,7)] [(4,4,0),(5,5,0),(6,6,0)]),(1000018,.c 157 [.t 0 roI,.b 4 0 roI,.b 4 1 roI,.b 4 2 roI,.b 4 3 roS,.b 4 4 (roL .val),.b 4 5 (roL .str),.b 4 6 (roL .row),.b 5 0 roI,.b 5 1 roI,.b 5 2 roI,.b 5 3 roS,.b 5 4 (roL .val),.b 5 5 (roL .str),.b 5 6 (roL .row),.b 6 0 roI,.b 6 1 roI,.b 6 2 roI,.b 6 3 roS,.b 6 4 (owE .val 0),.b 6 5 (owE .str 1),.b 6 6 (owE .row 2),.t 9 (roE .bool),.t 10 (roE .bool),.t 101 (roE .bool)] [(4,7),(5,7),(6,7)] [(4,4,0),(5,5,0),(6,6,0)]),(1000020,.c 157 [.t 0 roI,.b 4 0 roI,.b 4 1 roI,.b 4 2 roI,.b 4 3 roS,.b 4 4 (roL .val),.b 4 5 (roL .str),.b 4 6 (roL .row),.b 5 0 roI,.b 5 1 roI,.b 5 2 roI,.b 5 3 roS,.b 5 4 (roL .val),.b 5 5 (roL .str),.b 5 6 (roL .row),.b 6 0 roI,.b 6 1 roI,.b 6 2 roI,.b 6 3 roS,.b 6 4 (owE .val 0),.b 6 5 (owE .str 1),.b 6 6 (owE .row 2),.t 9 (roE .bool),.t 10 (roE .bool),.t 113 (roE .bool)] [(4,7),(5,7),(6,7)] [(4,4,0),(5,5,0),(6,6,0)]),(1000022,.c 157 [.t 0 roI,.b 4 0 roI,.b 4 1 roI,.b 4 2 roI,.b 4 3 roS,.b 4 4 (roL .val),.b 4 5 (roL .str),.b 4 6 (roL .row),.b 5 0 roI,.b 5 1 roI,.b 5 2 roI,.b 5 3 roS,.b 5 4 (roL .val),.b 5 5 (roL .str),.b 5 6 (roL .row),.b 6 0 roI,.b 6 1 roI,.b 6 2 roI,.b 6 3 roS,.b 6 4 (owE .val 0),.b 6 5 (owE .str 1),.b 6 6 (owE .row 2),.t 10 (roE .bool),.t 125 (roE .bool)] [(4,7),(5,7),(6,7)] [(4,4,0),(5,5,0),(6,6,0)]),(1000024,.c 157 [.t 0 roI,.b 4 0 roI,.b 4 1 roI,.b 4 2 roI,.b 4 3 roS,.b 4 4 (roL .val),.b 4 5 (roL .str),.b 4 6 (roL .row),.b 5 0 roI,.b 5 1 roI,.b 5 2 roI,.b 5 3 roS,.b 5 4 (roL .val),.b 5 5 (roL .str),.b 5 6 (roL .row),.b 6 0 roI,.b 6 1 roI,.b 6 2 roI,.b 6 3 roS,.b 6 4 (owE .val 0),.b 6 5 (owE .str 1),.b 6 6 (owE .row 2),.t 137 (roE .bool)] [(4,7),(5,7),(6,7)] [(4,4,0),(5,5,0),(6,6,0)])] Tryz.f77)
def ajm:=ajn.f (s:=ahf) (snd ajn [(3,.c 34 [.t 1 roS,.b 5 0 roI,.b 5 1 roI,.b 5 2 roI,.b 5 3 roS,.b 5 4 (roL .val),.b 5 5 (roL .str),.b 5 6 (roL .row),.t 7 (owE .binding 0),.t 11 (roL .binding),.t 12 roI,.t 13 roI] [(5,7)] [(5,5,0)])] Tryz.f78)
def ajl:=ajm.f (s:=acA) (snd ajm [] Tryz.f79)
def ajk:=ajl.f (s:=Xw) (snd ajl [] Tryz.f126)
def ajj:=ajk.f (s:=Xu) (snd ajk [] Tryz.f159)
def aji:=ajj.f (s:=aeX) (snd ajj [(8,.c 42 [.b 2 0 roI,.b 2 1 roI,.b 2 2 roI,.b 2 3 roS,.b 2 4 (owE .val 0),.b 2 5 (owE .str 4),.b 2 6 (owE .row 5),.t 5 roI,.t 21 (roL .val),.t 22 roI,.t 23 roI] [(2,7)] [(2,2,0)])] Tryz.f160)
theorem wU:Sound Tryz.prog U5:=snd aji [(5,.c 34 [.t 0 (roL .int),.b 4 0 roI,.b 4 1 roI,.b 4 2 roI,.b 4 3 roS,.b 4 4 (owE .val 0),.b 4 5 (owE .str 1),.b 4 6 (owE .row 2),.t 17 (roL .val),.t 18 roI,.t 19 roI] [(4,7)] [(4,4,0)])] Tryz.f172
def ajh:=aji.f wU
def ajg:=ajh.f (s:=U9) (snd ajh [] Tryz.f161)
def ajf:=ajg.f (s:=IA) (snd ajg [] Tryz.f198)
def aje:=ajf.f (s:=aeZ) (snd ajf [] Tryz.f164)
def ajd:=aje.f (s:=acu) (snd aje [(10,.c 58 [.b 2 0 roI,.b 2 1 roI,.b 2 2 roI,.b 2 3 roS,.b 2 4 (roL .val),.b 2 5 (roL .str),.b 2 6 (roL .row),.b 3 0 roI,.b 3 1 roI,.b 3 2 roI,.b 3 3 roS,.b 3 4 (roL .val),.b 3 5 (roL .str),.b 3 6 (roL .row),.b 4 0 roI,.b 4 1 roI,.b 4 2 roI,.b 4 3 roS,.b 4 4 (owE .val 0),.b 4 5 (owE .str 1),.b 4 6 (owE .row 6),.b 7 0 roI,.b 7 1 roI,.b 7 2 roI,.b 7 3 roS,.b 7 4 (.own (.base .val) false true 8),.b 7 5 (owE .str 10),.b 7 6 (owE .row 11),.t 8 roI] [(2,7),(3,7),(4,7),(7,7)] [(2,2,0),(3,3,0),(4,4,0),(7,7,0)])] Tryz.f162)
def ajc:=ajd.f (s:=Og) (snd ajd [] Tryz.f173)
def ak3:=ajc.f (s:=acv) (snd ajc [] Tryz.f163)
def ajb:=ak3.f NR
def aja:=ajb.f (s:=UY) (snd ajb [] Tryz.f199)
theorem sV:Sound Tryz.prog OH:=snd aja [] Tryz.f200
def ai9:=aja.f sV
def ai8:=ai9.f (s:=Ox) (snd ai9 [(21,.c 92 [.b 4 0 roI,.b 4 1 roI,.b 4 2 roI,.b 4 3 roS,.b 4 4 (owE .val 0),.b 4 5 (owE .str 1),.b 4 6 (owE .row 6),.b 7 0 roI,.b 7 1 roI,.b 7 2 roI,.b 7 3 roS,.b 7 4 (owE .val 8),.b 7 5 (roL .str),.b 7 6 (owE .row 9),.t 8 (roL .int),.b 13 0 (roL .int),.b 13 1 (roL .origin),.b 14 0 (owE .int 10),.b 14 1 (owE .origin 11),.t 56 (roL .row),.t 57 roI,.t 58 roI,.t 67 (roL .int),.t 68 roI,.t 69 roI] [(4,7),(7,7),(13,2),(14,2)] [(4,4,0),(7,7,0),(13,13,0),(14,14,0)]),(17,.c 92 [.b 4 0 roI,.b 4 1 roI,.b 4 2 roI,.b 4 3 roS,.b 4 4 (owE .val 0),.b 4 5 (owE .str 1),.b 4 6 (owE .row 6),.b 7 0 roI,.b 7 1 roI,.b 7 2 roI,.b 7 3 roS,.b 7 4 (owE .val 8),.b 7 5 (roL .str),.b 7 6 (owE .row 9),.t 8 (roL .int),.t 56 (roL .row),.t 57 roI,.t 58 roI] [(4,7),(7,7)] [(4,4,0),(7,7,0)]),(7,.c 92 [.b 3 0 roI,.b 3 1 roI,.b 3 2 roI,.b 3 3 roS,.b 3 4 (roL .val),.b 3 5 (roL .str),.b 3 6 (roL .row),.b 4 0 roI,.b 4 1 roI,.b 4 2 roI,.b 4 3 roS,.b 4 4 (owE .val 0),.b 4 5 (owE .str 1),.b 4 6 (owE .row 6),.b 7 0 roI,.b 7 1 roI,.b 7 2 roI,.b 7 3 roS,.b 7 4 (owE .val 8),.b 7 5 (roL .str),.b 7 6 (owE .row 9),.t 8 (owE .int 10),.t 33 (roL .str),.t 34 roI,.t 35 roI] [(3,7),(4,7),(7,7)] [(3,3,0),(4,4,0),(7,7,0)])] Tryz.f165)
def ai7:=ai8.f (s:=XB) (snd ai8 [(11,.c 54 [.b 4 0 roI,.b 4 1 roI,.b 4 2 roI,.b 4 3 roS,.b 4 4 (owE .val 0),.b 4 5 (owE .str 1),.b 4 6 (owE .row 6),.t 7 roI,.b 8 0 roI,.b 8 1 roI,.b 8 2 roI,.b 8 3 roS,.b 8 4 (owE .val 7),.b 8 5 (owE .str 9),.b 8 6 (owE .row 11),.t 35 (roL .row),.t 36 roI,.t 37 roI] [(4,7),(8,7)] [(4,4,0),(8,8,0)])] Tryz.f166)
def ai6:=ai7.f (s:=ZC) (snd ai7 [(14,.c 80 [.b 4 0 roI,.b 4 1 roI,.b 4 2 roI,.b 4 3 roS,.b 4 4 (owE .val 0),.b 4 5 (owE .str 1),.b 4 6 (owE .row 6),.b 7 0 roI,.b 7 1 roI,.b 7 2 roI,.b 7 3 roS,.b 7 4 (owE .val 8),.b 7 5 (owE .str 11),.b 7 6 (owE .row 13),.b 10 0 (owE .int 15),.b 10 1 (owE .origin 16),.t 33 (roL .val),.t 34 roI,.t 35 roI,.t 54 (roL .val),.t 55 roI,.t 56 roI] [(4,7),(7,7),(10,2)] [(4,4,0),(7,7,0),(10,10,0)]),(8,.c 80 [.b 4 0 roI,.b 4 1 roI,.b 4 2 roI,.b 4 3 roS,.b 4 4 (owE .val 0),.b 4 5 (owE .str 1),.b 4 6 (owE .row 6),.b 7 0 roI,.b 7 1 roI,.b 7 2 roI,.b 7 3 roS,.b 7 4 (owE .val 8),.b 7 5 (owE .str 11),.b 7 6 (owE .row 13),.t 33 (roL .val),.t 34 roI,.t 35 roI] [(4,7),(7,7)] [(4,4,0),(7,7,0)])] Tryz.f167)
end
end Go.Proofs.YtjbajpfonnnfoaaGreatDoor
