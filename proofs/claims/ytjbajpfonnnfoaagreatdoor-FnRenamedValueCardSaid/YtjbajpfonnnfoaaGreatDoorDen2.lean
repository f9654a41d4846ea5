import Derived.Test.YtjbajpfonnnfoaaGreatDoorSrtSrc
/- The functions compute their models, by gen.py. -/
namespace Go.Proofs.YtjbajpfonnnfoaaGreatDoor
noncomputable section
open Go.Abs Go.Proofs
set_option maxRecDepth 100000
def kk61:=kk60.b JP
def kk62:=kk61.ane WI [(4,.c 33 (amZ 0++[.t 3 (.own (.base .binding) false true 0),.t 4 roI,.t 5 roI]) [(0,3)] [(0,0,0)])] Tryz.f24
def kk63:=kk62.ane Zc [] Tryz.f66
def kk64:=kk63.ane Y5 [(4,.c 34 (amZ 0++[.t 3 (owE .read 0),.t 4 roI,.t 5 roI]) [(0,3)] [(0,0,0)])] Tryz.f25
def kk65:=kk64.ane Zd [(5,.c 37 (amZ 0++amX 2 0 [roI,roI,(owE .file 0)]++amX 3 0 [roI,roI,(owE .file 1)]++[.t 17 (owE .str 4),.t 18 roI,.t 19 roI]) [(0,3),(2,3),(3,3)] [(0,0,0),(2,2,0),(3,3,0)])] Tryz.f26
def kk66:=kk65.anb JS [] Tryz.f7
theorem uF:∀n,Sound Tryz.prog (vz n)
 | 0=>.ang
 | n+1=>
  have ih:=uF n
  snd (s:=vz (n+1)) (kk66.f ih) [(3,.c 19 [.t 3 roI,.t 7 (roL .expr),.t 8 roI,.t 9 roI] [] [])] Tryz.f69
theorem IV:Sound Tryz.prog Vo:=.fuel vz (λn=>rfl) uF (λx=>siz (α:=ak) x+1) λx=>by kernel_rfl
def kk67:=kk66.f IV
theorem uG:∀n,Sound Tryz.prog (vC n)
 | 0=>.ang
 | n+1=>
  have ih:=uG n
  snd (s:=vC (n+1)) (kk67.f ih) [(3,.c 20 [.t 3 roI,.t 7 (roL .expr),.t 8 roI,.t 9 roI] [] [])] Tryz.f70
theorem IW:Sound Tryz.prog Vp:=.fuel vC (λn=>rfl) uG (λx=>siz (α:=ak) x+1) λx=>by kernel_rfl
def kk68:=kk67.f IW
def kk69:=kk68.anb ac0 [] Tryz.f148
def kk70:=kk69.anb ac5 [(2,.c 42 [.t 0 roS,.t 3 roI] [] [])] Tryz.f105
def kk71:=kk70.anb I9 [] Tryz.f149
def kk72:=kk71.anb QL [] Tryz.f106
def kk73:=kk72.anb OU [] Tryz.f51
def kk74:=kk73.anb OT [(2,.c 29 [.t 0 roS,.t 3 roI] [] [])] Tryz.f155
def kk75:=kk74.anb ac7 [] Tryz.f119
theorem xg:∀n,Sound Tryz.prog (yL n)
 | 0=>.ang
 | n+1=>
  have ih:=xg n
  snd (s:=yL (n+1)) (kk75.f ih) [(2,.c 18 (amY 1++[.t 6 (roL .expr),.t 7 roI,.t 8 roI]) [(1,4)] [(1,1,0)])] Tryz.f71
theorem Ko:Sound Tryz.prog XW:=.fuel yL (λn=>rfl) xg (λx=>siz (α:=ak) x+1) λx=>by kernel_rfl
def kk76:=kk75.f Ko
def kk77:=kk76.anb OV [] Tryz.f28
theorem uI:Sound Tryz.prog QN:=snd kk77 [] Tryz.f29
def kk78:=kk77.f uI
def kk79:=kk78.anb OG [] Tryz.f72
def kk80:=kk79.anb Vl [] Tryz.f73
def akT:=kk80.anb aai [] Tryz.f83
theorem nP:∀n,Sound Tryz.prog (vI n)/\Sound Tryz.prog (sK n)
 | 0=>⟨(λw S args x y h=>by cases h),(λw S args x y h=>by cases h)⟩
 | n+1=>
  have ih:=nP n
  ⟨snd (s:=vI (n+1)) ((akT.f ih.1).f ih.2) [(6,.c 33 (am2 2 0 4 6++am2 3 7 8 10++[.t 18 (roL .row),.t 19 roI,.t 20 roI]) [(2,7),(3,7)] [(2,2,0),(3,3,0)])] Tryz.f31,
  snd (s:=sK (n+1)) ((akT.f ih.1).f ih.2) [(3,.c 20 [.t 3 (owE .val 0),.t 7 (roL .val),.t 8 roI,.t 9 roI] [] [])] Tryz.f82⟩
theorem I5:Sound Tryz.prog Vz:=.fuel vI (λn=>rfl) (λn=>(nP n).1) (λx=>siz (α:=af) x+1) λx=>by kernel_rfl
def kk82:=akT.f I5
theorem Gt:Sound Tryz.prog QR:=.fuel sK (λn=>rfl) (λn=>(nP n).2) (λx=>siz (α:=List af) x+1) λx=>by kernel_rfl
def kk83:=kk82.f Gt
def kk84:=kk83.anb ac3 [(2,.c 27 ([.t 0 (roL .binding),.t 1 roS]++am2 4 0 1 2++[.t 5 roI]) [(4,7)] [(4,4,0)])] Tryz.f74
theorem zh:∀n,Sound Tryz.prog (A7 n)
 | 0=>.ang
 | n+1=>
  have ih:=zh n
  snd (s:=A7 (n+1)) (kk84.f ih) [(3,.c 20 [.t 3 roI,.t 7 (roL .val),.t 8 roI,.t 9 roI] [] [])] Tryz.f122
theorem OX:Sound Tryz.prog aah:=.fuel A7 (λn=>rfl) zh (λx=>siz (α:=af) x+1) λx=>by kernel_rfl
def kk85:=kk84.f OX
theorem y9:Sound Tryz.prog XL:=snd kk85 [] Tryz.f157
def kk86:=kk85.f y9
theorem AZ:Sound Tryz.prog aae:=snd kk86 [(2,.c 19 [.t 1 roS,.t 7 (roL .str),.t 8 roI,.t 9 roI] [] [])] Tryz.f108
def kk87:=kk86.f AZ
def kk88:=kk87.anb O1 [(2,.c 18 [.t 0 (roL .str),.t 5 (roL .str),.t 6 roI,.t 7 roI] [] [])] Tryz.f201
def kk89:=kk88.anb QS [(2,.c 22 [.t 0 (roL .str),.t 5 (roL .str),.t 6 roI,.t 7 roI] [] [])] Tryz.f202
def kk90:=kk89.anb J3 [] Tryz.f220
def kk91:=kk90.anb aad [(15,.c 77 (am4 1++am5 4++[.t 20 (roL .row),.t 21 roI,.t 22 roI,.t 45 (roL .origin),.t 46 roI,.t 47 roI]) [(1,7),(4,2)] [(1,1,0),(4,4,0)]),(9,.c 77 (am4 1++am5 4++[.t 20 (roL .row),.t 21 roI,.t 22 roI,.t 34 (roL .int),.t 35 roI,.t 36 roI]) [(1,7),(4,2)] [(1,1,0),(4,4,0)]),(4,.c 77 (am4 1++[.t 20 (roL .row),.t 21 roI,.t 22 roI]) [(1,7)] [(1,1,0)])] Tryz.f194
theorem pY:∀n,Sound Tryz.prog (oI n)
 | 0=>.ang
 | n+1=>
  have ih:=pY n
  snd (s:=oI (n+1)) (kk91.f ih) [(1000002,.c 185 (am4 1++[.t 3 (roE .bool)]) [(1,7)] [(1,1,0)]),(1000020,.c 185 (am4 1) [(1,7)] [(1,1,0)]),(15,.c 185 (am4 1++[.t 124 (roL .val),.t 125 roI,.t 126 roI]) [(1,7)] [(1,1,0)])] Tryz.f156
theorem CY:Sound Tryz.prog J5:=.fuel oI (λn=>rfl) pY (λx=>siz (α:=af) x+1) λx=>by kernel_rfl
def kk92:=kk91.f CY
def kk93:=kk92.anb J4 [(2,.c 22 (am2 2 0 1 3++[.t 6 (roL .val),.t 7 roI,.t 8 roI]) [(2,7)] [(2,2,0)])] Tryz.f120
def kk94:=kk93.anb Vt [] Tryz.f121
def kk95:=kk94.anb VA [(5,.c 49 ([.t 0 (roL .val)]++am2 2 0 1 4++[.t 16 (roL .val),.t 17 roI,.t 18 roI]) [(2,7)] [(2,2,0)])] Tryz.f75
def kk96:=kk95.anb I8 [] Tryz.f123
def kk97:=kk96.anb QG [] Tryz.f124
def kk98:=kk97.anb QH [(4,.c 26 [.t 0 (roL .str),.t 1 (roL .str),.t 12 roI,.t 13 roI] [] [])] Tryz.f195
def kk99:=kk98.anb Z9 [(4,.c 26 [.t 0 (roL .int),.t 1 (roL .int),.t 12 roI,.t 13 roI] [] [])] Tryz.f196
def ake:=kk99.anb QI [(4,.c 26 [.t 0 (roL .origin),.t 1 (roL .origin),.t 12 roI,.t 13 roI] [] [])] Tryz.f197
theorem Dp:∀n,Sound Tryz.prog (IZ n)
 | 0=>.ang
 | n+1=>
  have ih:=Dp n
  snd (s:=IZ (n+1)) (ake.f ih) [(10,.c 121 ([.t 2 (roE .bool)]++am4 3++am4 4++[.t 83 roI,.t 84 roI]) [(3,7),(4,7)] [(3,3,0),(4,4,0)]),(4,.c 121 ([.t 2 (roE .bool)]++am4 3++am4 4++[.t 63 roI,.t 64 roI]) [(3,7),(4,7)] [(3,3,0),(4,4,0)])] Tryz.f158
theorem Vw:Sound Tryz.prog afP:=.fuel IZ (λn=>rfl) Dp (λx=>siz (α:=af) x.1+siz (α:=af) x.2.1+1) λx=>by kernel_rfl
def akd:=ake.f Vw
def akc:=akd.anb QO [] Tryz.f125
def akb:=akc.anb Ja [(1000005,.c 157 ([.t 0 roI]++am4 4++am4 5++am2 6 0 1 2++[.t 9 (roE .bool)]) [(4,7),(5,7),(6,7)] [(4,4,0),(5,5,0),(6,6,0)]),(1000006,.c 157 ([.t 0 roI]++am4 4++am4 5++am2 6 0 1 2++[.t 9 (roE .bool),.t 10 (roE .bool)]) [(4,7),(5,7),(6,7)] [(4,4,0),(5,5,0),(6,6,0)]),(1000007,.c 157 ([.t 0 roI]++am4 4++am4 5++am2 6 0 1 2++[.t 9 (roE .bool),.t 10 (roE .bool),.t 11 (roE .bool)]) [(4,7),(5,7),(6,7)] [(4,4,0),(5,5,0),(6,6,0)]),(1000008,.c 157 ([.t 0 roI]++am4 4++am4 5++am2 6 0 1 2++[.t 9 (roE .bool),.t 10 (roE .bool),.t 11 (roE .bool),.t 45 (roE .bool)]) [(4,7),(5,7),(6,7)] [(4,4,0),(5,5,0),(6,6,0)]),(1000010,.c 157 ([.t 0 roI]++am4 4++am4 5++am2 6 0 1 2++[.t 9 (roE .bool),.t 10 (roE .bool),.t 11 (roE .bool),.t 57 (roE .bool)]) [(4,7),(5,7),(6,7)] [(4,4,0),(5,5,0),(6,6,0)]),(1000014,.c 157 ([.t 0 roI]++am4 4++am4 5++am2 6 0 1 2++[.t 9 (roE .bool),.t 10 (roE .bool),.t 78 (roE .bool)]) [(4,7),(5,7),(6,7)] [(4,4,0),(5,5,0),(6,6,0)]),(1000018,.c 157 ([.t 0 roI]++am4 4++am4 5++am2 6 0 1 2++[.t 9 (roE .bool),.t 10 (roE .bool),.t 101 (roE .bool)]) [(4,7),(5,7),(6,7)] [(4,4,0),(5,5,0),(6,6,0)]),(1000020,.c 157 ([.t 0 roI]++am4 4++am4 5++am2 6 0 1 2++[.t 9 (roE .bool),.t 10 (roE .bool),.t 113 (roE .bool)]) [(4,7),(5,7),(6,7)] [(4,4,0),(5,5,0),(6,6,0)]),(1000022,.c 157 ([.t 0 roI]++am4 4++am4 5++am2 6 0 1 2++[.t 10 (roE .bool),.t 125 (roE .bool)]) [(4,7),(5,7),(6,7)] [(4,4,0),(5,5,0),(6,6,0)]),(1000024,.c 157 ([.t 0 roI]++am4 4++am4 5++am2 6 0 1 2++[.t 137 (roE .bool)]) [(4,7),(5,7),(6,7)] [(4,4,0),(5,5,0),(6,6,0)])] Tryz.f77
def aj9:=akb.anb ahU [(3,.c 34 ([.t 1 roS]++am4 5++[.t 7 (owE .binding 0),.t 11 (roL .binding),.t 12 roI,.t 13 roI]) [(5,7)] [(5,5,0)])] Tryz.f78
def aj8:=aj9.anb ac6 [] Tryz.f79
def aj7:=aj8.anb XM [] Tryz.f126
def aj6:=aj7.anb XK [] Tryz.f159
def aj3:=aj6.anb afJ [(8,.c 42 (am2 2 0 4 5++[.t 5 roI,.t 21 (roL .val),.t 22 roI,.t 23 roI]) [(2,7)] [(2,2,0)])] Tryz.f160
theorem wU:Sound Tryz.prog Vu:=snd aj3 [(5,.c 34 ([.t 0 (roL .int)]++am2 4 0 1 2++[.t 17 (roL .val),.t 18 roI,.t 19 roI]) [(4,7)] [(4,4,0)])] Tryz.f172
def aj2:=aj3.f wU
def aj1:=aj2.anb Vy [] Tryz.f161
def aj0:=aj1.anb IQ [] Tryz.f198
def ajZ:=aj0.anb afL [] Tryz.f164
def ajY:=ajZ.anb ac1 [(10,.c 58 (am4 2++am4 3++am2 4 0 1 6++amX 7 0 [roI,roI,roI,roS,(.own (.base .val) false true 8),(owE .str 10),(owE .row 11)]++[.t 8 roI]) [(2,7),(3,7),(4,7),(7,7)] [(2,2,0),(3,3,0),(4,4,0),(7,7,0)])] Tryz.f162
def ajX:=ajY.anb Oz [] Tryz.f173
def alW:=ajX.anb ac2 [] Tryz.f163
def ajW:=alW.f Oc
def ajV:=ajW.anb Vm [] Tryz.f199
theorem sQ:Sound Tryz.prog OZ:=snd ajV [] Tryz.f200
def ajU:=ajV.f sQ
def ajT:=ajU.anb OQ [(21,.c 92 (am2 4 0 1 6++am6 7 8 9++[.t 8 (roL .int)]++am5 13++am3 14 10 11++[.t 56 (roL .row),.t 57 roI,.t 58 roI,.t 67 (roL .int),.t 68 roI,.t 69 roI]) [(4,7),(7,7),(13,2),(14,2)] [(4,4,0),(7,7,0),(13,13,0),(14,14,0)]),(17,.c 92 (am2 4 0 1 6++am6 7 8 9++[.t 8 (roL .int),.t 56 (roL .row),.t 57 roI,.t 58 roI]) [(4,7),(7,7)] [(4,4,0),(7,7,0)]),(7,.c 92 (am4 3++am2 4 0 1 6++am6 7 8 9++[.t 8 (owE .int 10),.t 33 (roL .str),.t 34 roI,.t 35 roI]) [(3,7),(4,7),(7,7)] [(3,3,0),(4,4,0),(7,7,0)])] Tryz.f165
def ajS:=ajT.anb XU [(11,.c 54 (am2 4 0 1 6++[.t 7 roI]++am2 8 7 9 11++[.t 35 (roL .row),.t 36 roI,.t 37 roI]) [(4,7),(8,7)] [(4,4,0),(8,8,0)])] Tryz.f166
def ajR:=ajS.anb Z8 [(14,.c 80 (am2 4 0 1 6++am2 7 8 11 13++am3 10 15 16++[.t 33 (roL .val),.t 34 roI,.t 35 roI,.t 54 (roL .val),.t 55 roI,.t 56 roI]) [(4,7),(7,7),(10,2)] [(4,4,0),(7,7,0),(10,10,0)]),(8,.c 80 (am2 4 0 1 6++am2 7 8 11 13++[.t 33 (roL .val),.t 34 roI,.t 35 roI]) [(4,7),(7,7)] [(4,4,0),(7,7,0)])] Tryz.f167
end
end Go.Proofs.YtjbajpfonnnfoaaGreatDoor
