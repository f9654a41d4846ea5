import Derived.Test.YtjbajpfonnnfoaaGreatDoorSrtSrc
/- The functions compute their models, by gen.py. -/
namespace Go.Proofs.YtjbajpfonnnfoaaGreatDoor
noncomputable section
open Go.Abs Go.Proofs
set_option maxRecDepth 100000
def kk61:=kk60.b JF
def kk62:=kk61.alV Wj [(4,.c 33 (alH 0++[.t 3 (.own (.base .binding) false true 0),.t 4 roI,.t 5 roI]) [(0,3)] [(0,0,0)])] Tryz.f24
def kk63:=kk62.alV YW [] Tryz.f66
def kk64:=kk63.alV YP [(4,.c 34 (alH 0++[.t 3 (owE .read 0),.t 4 roI,.t 5 roI]) [(0,3)] [(0,0,0)])] Tryz.f25
def kk65:=kk64.alV YX [(5,.c 37 (alH 0++alF 2 0 [roI,roI,(owE .file 0)]++alF 3 0 [roI,roI,(owE .file 1)]++[.t 17 (owE .str 4),.t 18 roI,.t 19 roI]) [(0,3),(2,3),(3,3)] [(0,0,0),(2,2,0),(3,3,0)])] Tryz.f26
def kk66:=kk65.alT JI [] Tryz.f7
theorem uy:∀n,Sound Tryz.prog (uV n)
 | 0=>.alX
 | n+1=>
  have ih:=uy n
  snd (s:=uV (n+1)) (kk66.f ih) [(3,.c 19 [.t 3 roI,.t 7 (roL .expr),.t 8 roI,.t 9 roI] [] [])] Tryz.f69
theorem Iz:Sound Tryz.prog U4:=.fuel uV (λn=>rfl) uy (λx=>siz (α:=au) x+1) λx=>by kernel_rfl
def kk67:=kk66.f Iz
theorem uz:∀n,Sound Tryz.prog (uX n)
 | 0=>.alX
 | n+1=>
  have ih:=uz n
  snd (s:=uX (n+1)) (kk67.f ih) [(3,.c 20 [.t 3 roI,.t 7 (roL .expr),.t 8 roI,.t 9 roI] [] [])] Tryz.f70
theorem IA:Sound Tryz.prog U5:=.fuel uX (λn=>rfl) uz (λx=>siz (α:=au) x+1) λx=>by kernel_rfl
def kk68:=kk67.f IA
def kk69:=kk68.alT acy [] Tryz.f148
def kk70:=kk69.alT acD [(2,.c 42 [.t 0 roS,.t 3 roI] [] [])] Tryz.f105
def kk71:=kk70.alT IK [] Tryz.f149
def kk72:=kk71.alT Qw [] Tryz.f106
def kk73:=kk72.alT Oy [] Tryz.f51
def kk74:=kk73.alT Ox [(2,.c 29 [.t 0 roS,.t 3 roI] [] [])] Tryz.f155
def kk75:=kk74.alT acF [] Tryz.f119
theorem wQ:∀n,Sound Tryz.prog (yw n)
 | 0=>.alX
 | n+1=>
  have ih:=wQ n
  snd (s:=yw (n+1)) (kk75.f ih) [(2,.c 18 (alG 1++[.t 6 (roL .expr),.t 7 roI,.t 8 roI]) [(1,4)] [(1,1,0)])] Tryz.f71
theorem JY:Sound Tryz.prog XG:=.fuel yw (λn=>rfl) wQ (λx=>siz (α:=au) x+1) λx=>by kernel_rfl
def kk76:=kk75.f JY
def kk77:=kk76.alT Oz [] Tryz.f28
theorem uF:Sound Tryz.prog Qx:=snd kk77 [] Tryz.f29
def kk78:=kk77.f uF
def kk79:=kk78.alT Oi [] Tryz.f72
def kk80:=kk79.alT U2 [] Tryz.f73
def ake:=kk80.alT ZP [] Tryz.f83
theorem nJ:∀n,Sound Tryz.prog (vk n)/\Sound Tryz.prog (sN n)
 | 0=>⟨(λw S args x y h=>by cases h),(λw S args x y h=>by cases h)⟩
 | n+1=>
  have ih:=nJ n
  ⟨snd (s:=vk (n+1)) ((ake.f ih.1).f ih.2) [(6,.c 33 (alK 2 0 4 6++alK 3 7 8 10++[.t 18 (roL .row),.t 19 roI,.t 20 roI]) [(2,7),(3,7)] [(2,2,0),(3,3,0)])] Tryz.f31,
  snd (s:=sN (n+1)) ((ake.f ih.1).f ih.2) [(3,.c 20 [.t 3 (owE .val 0),.t 7 (roL .val),.t 8 roI,.t 9 roI] [] [])] Tryz.f82⟩
theorem II:Sound Tryz.prog Vj:=.fuel vk (λn=>rfl) (λn=>(nJ n).1) (λx=>siz (α:=af) x+1) λx=>by kernel_rfl
def kk82:=ake.f II
theorem FT:Sound Tryz.prog Qz:=.fuel sN (λn=>rfl) (λn=>(nJ n).2) (λx=>siz (α:=List af) x+1) λx=>by kernel_rfl
def kk83:=kk82.f FT
def kk84:=kk83.alT acB [(2,.c 27 ([.t 0 (roL .binding),.t 1 roS]++alK 4 0 1 2++[.t 5 roI]) [(4,7)] [(4,4,0)])] Tryz.f74
theorem yP:∀n,Sound Tryz.prog (Au n)
 | 0=>.alX
 | n+1=>
  have ih:=yP n
  snd (s:=Au (n+1)) (kk84.f ih) [(3,.c 20 [.t 3 roI,.t 7 (roL .val),.t 8 roI,.t 9 roI] [] [])] Tryz.f122
theorem OC:Sound Tryz.prog ZO:=.fuel Au (λn=>rfl) yP (λx=>siz (α:=af) x+1) λx=>by kernel_rfl
def kk85:=kk84.f OC
theorem yO:Sound Tryz.prog Xy:=snd kk85 [] Tryz.f157
def kk86:=kk85.f yO
theorem OA:Sound Tryz.prog ZL:=snd kk86 [(2,.c 19 [.t 1 roS,.t 7 (roL .str),.t 8 roI,.t 9 roI] [] [])] Tryz.f108
def kk87:=kk86.f OA
def kk88:=kk87.alT OH [(2,.c 18 [.t 0 (roL .str),.t 5 (roL .str),.t 6 roI,.t 7 roI] [] [])] Tryz.f201
def kk89:=kk88.alT QA [(2,.c 22 [.t 0 (roL .str),.t 5 (roL .str),.t 6 roI,.t 7 roI] [] [])] Tryz.f202
def kk90:=kk89.alT JR [] Tryz.f220
def kk91:=kk90.alT ZK [(15,.c 77 (alM 1++alN 4++[.t 20 (roL .row),.t 21 roI,.t 22 roI,.t 45 (roL .origin),.t 46 roI,.t 47 roI]) [(1,7),(4,2)] [(1,1,0),(4,4,0)]),(9,.c 77 (alM 1++alN 4++[.t 20 (roL .row),.t 21 roI,.t 22 roI,.t 34 (roL .int),.t 35 roI,.t 36 roI]) [(1,7),(4,2)] [(1,1,0),(4,4,0)]),(4,.c 77 (alM 1++[.t 20 (roL .row),.t 21 roI,.t 22 roI]) [(1,7)] [(1,1,0)])] Tryz.f194
theorem qf:∀n,Sound Tryz.prog (oD n)
 | 0=>.alX
 | n+1=>
  have ih:=qf n
  snd (s:=oD (n+1)) (kk91.f ih) [(1000002,.c 185 (alM 1++[.t 3 (roE .bool)]) [(1,7)] [(1,1,0)]),(1000020,.c 185 (alM 1) [(1,7)] [(1,1,0)]),(15,.c 185 (alM 1++[.t 124 (roL .val),.t 125 roI,.t 126 roI]) [(1,7)] [(1,1,0)])] Tryz.f156
theorem Ce:Sound Tryz.prog JU:=.fuel oD (λn=>rfl) qf (λx=>siz (α:=af) x+1) λx=>by kernel_rfl
def kk92:=kk91.f Ce
def kk93:=kk92.alT JS [(2,.c 22 (alK 2 0 1 3++[.t 6 (roL .val),.t 7 roI,.t 8 roI]) [(2,7)] [(2,2,0)])] Tryz.f120
def kk94:=kk93.alT U9 [] Tryz.f121
def kk95:=kk94.alT Vk [(5,.c 49 ([.t 0 (roL .val)]++alK 2 0 1 4++[.t 16 (roL .val),.t 17 roI,.t 18 roI]) [(2,7)] [(2,2,0)])] Tryz.f75
def kk96:=kk95.alT IJ [] Tryz.f123
def kk97:=kk96.alT Qr [] Tryz.f124
def kk98:=kk97.alT Qs [(4,.c 26 [.t 0 (roL .str),.t 1 (roL .str),.t 12 roI,.t 13 roI] [] [])] Tryz.f195
def kk99:=kk98.alT ZJ [(4,.c 26 [.t 0 (roL .int),.t 1 (roL .int),.t 12 roI,.t 13 roI] [] [])] Tryz.f196
def ajv:=kk99.alT Qu [(4,.c 26 [.t 0 (roL .origin),.t 1 (roL .origin),.t 12 roI,.t 13 roI] [] [])] Tryz.f197
theorem CS:∀n,Sound Tryz.prog (IE n)
 | 0=>.alX
 | n+1=>
  have ih:=CS n
  snd (s:=IE (n+1)) (ajv.f ih) [(10,.c 121 ([.t 2 (roE .bool)]++alM 3++alM 4++[.t 83 roI,.t 84 roI]) [(3,7),(4,7)] [(3,3,0),(4,4,0)]),(4,.c 121 ([.t 2 (roE .bool)]++alM 3++alM 4++[.t 63 roI,.t 64 roI]) [(3,7),(4,7)] [(3,3,0),(4,4,0)])] Tryz.f158
theorem Vf:Sound Tryz.prog ae4:=.fuel IE (λn=>rfl) CS (λx=>siz (α:=af) x.1+siz (α:=af) x.2.1+1) λx=>by kernel_rfl
def aju:=ajv.f Vf
def ajt:=aju.alT Qy [] Tryz.f125
def ajs:=ajt.alT IL [(1000005,.c 157 ([.t 0 roI]++alM 4++alM 5++alK 6 0 1 2++[.t 9 (roE .bool)]) [(4,7),(5,7),(6,7)] [(4,4,0),(5,5,0),(6,6,0)]),(1000006,.c 157 ([.t 0 roI]++alM 4++alM 5++alK 6 0 1 2++[.t 9 (roE .bool),.t 10 (roE .bool)]) [(4,7),(5,7),(6,7)] [(4,4,0),(5,5,0),(6,6,0)]),(1000007,.c 157 ([.t 0 roI]++alM 4++alM 5++alK 6 0 1 2++[.t 9 (roE .bool),.t 10 (roE .bool),.t 11 (roE .bool)]) [(4,7),(5,7),(6,7)] [(4,4,0),(5,5,0),(6,6,0)]),(1000008,.c 157 ([.t 0 roI]++alM 4++alM 5++alK 6 0 1 2++[.t 9 (roE .bool),.t 10 (roE .bool),.t 11 (roE .bool),.t 45 (roE .bool)]) [(4,7),(5,7),(6,7)] [(4,4,0),(5,5,0),(6,6,0)]),(1000010,.c 157 ([.t 0 roI]++alM 4++alM 5++alK 6 0 1 2++[.t 9 (roE .bool),.t 10 (roE .bool),.t 11 (roE .bool),.t 57 (roE .bool)]) [(4,7),(5,7),(6,7)] [(4,4,0),(5,5,0),(6,6,0)]),(1000014,.c 157 ([.t 0 roI]++alM 4++alM 5++alK 6 0 1 2++[.t 9 (roE .bool),.t 10 (roE .bool),.t 78 (roE .bool)]) [(4,7),(5,7),(6,7)] [(4,4,0),(5,5,0),(6,6,0)]),(1000018,.c 157 ([.t 0 roI]++alM 4++alM 5++alK 6 0 1 2++[.t 9 (roE .bool),.t 10 (roE .bool),.t 101 (roE .bool)]) [(4,7),(5,7),(6,7)] [(4,4,0),(5,5,0),(6,6,0)]),(1000020,.c 157 ([.t 0 roI]++alM 4++alM 5++alK 6 0 1 2++[.t 9 (roE .bool),.t 10 (roE .bool),.t 113 (roE .bool)]) [(4,7),(5,7),(6,7)] [(4,4,0),(5,5,0),(6,6,0)]),(1000022,.c 157 ([.t 0 roI]++alM 4++alM 5++alK 6 0 1 2++[.t 10 (roE .bool),.t 125 (roE .bool)]) [(4,7),(5,7),(6,7)] [(4,4,0),(5,5,0),(6,6,0)]),(1000024,.c 157 ([.t 0 roI]++alM 4++alM 5++alK 6 0 1 2++[.t 137 (roE .bool)]) [(4,7),(5,7),(6,7)] [(4,4,0),(5,5,0),(6,6,0)])] Tryz.f77
def ajr:=ajs.alT ahg [(3,.c 34 ([.t 1 roS]++alM 5++[.t 7 (owE .binding 0),.t 11 (roL .binding),.t 12 roI,.t 13 roI]) [(5,7)] [(5,5,0)])] Tryz.f78
def ajq:=ajr.alT acE [] Tryz.f79
def ajp:=ajq.alT Xz [] Tryz.f126
def ajo:=ajp.alT Xx [] Tryz.f159
def ajn:=ajo.alT aeY [(8,.c 42 (alK 2 0 4 5++[.t 5 roI,.t 21 (roL .val),.t 22 roI,.t 23 roI]) [(2,7)] [(2,2,0)])] Tryz.f160
theorem wI:Sound Tryz.prog Ve:=snd ajn [(5,.c 34 ([.t 0 (roL .int)]++alK 4 0 1 2++[.t 17 (roL .val),.t 18 roI,.t 19 roI]) [(4,7)] [(4,4,0)])] Tryz.f172
def ajm:=ajn.f wI
def ajl:=ajm.alT Vh [] Tryz.f161
def ajk:=ajl.alT Iy [] Tryz.f198
def ajj:=ajk.alT ae0 [] Tryz.f164
def aji:=ajj.alT acz [(10,.c 58 (alM 2++alM 3++alK 4 0 1 6++alF 7 0 [roI,roI,roI,roS,(.own (.base .val) false true 8),(owE .str 10),(owE .row 11)]++[.t 8 roI]) [(2,7),(3,7),(4,7),(7,7)] [(2,2,0),(3,3,0),(4,4,0),(7,7,0)])] Tryz.f162
def ajh:=aji.alT Oc [] Tryz.f173
def ala:=ajh.alT acA [] Tryz.f163
def ajg:=ala.f NQ
def ajf:=ajg.alT U3 [] Tryz.f199
theorem sQ:Sound Tryz.prog OE:=snd ajf [] Tryz.f200
def aje:=ajf.f sQ
def ajd:=aje.alT Ou [(21,.c 92 (alK 4 0 1 6++alO 7 8 9++[.t 8 (roL .int)]++alN 13++alL 14 10 11++[.t 56 (roL .row),.t 57 roI,.t 58 roI,.t 67 (roL .int),.t 68 roI,.t 69 roI]) [(4,7),(7,7),(13,2),(14,2)] [(4,4,0),(7,7,0),(13,13,0),(14,14,0)]),(17,.c 92 (alK 4 0 1 6++alO 7 8 9++[.t 8 (roL .int),.t 56 (roL .row),.t 57 roI,.t 58 roI]) [(4,7),(7,7)] [(4,4,0),(7,7,0)]),(7,.c 92 (alM 3++alK 4 0 1 6++alO 7 8 9++[.t 8 (owE .int 10),.t 33 (roL .str),.t 34 roI,.t 35 roI]) [(3,7),(4,7),(7,7)] [(3,3,0),(4,4,0),(7,7,0)])] Tryz.f165
def ajc:=ajd.alT XE [(11,.c 54 (alK 4 0 1 6++[.t 7 roI]++alK 8 7 9 11++[.t 35 (roL .row),.t 36 roI,.t 37 roI]) [(4,7),(8,7)] [(4,4,0),(8,8,0)])] Tryz.f166
def ajb:=ajc.alT ZI [(14,.c 80 (alK 4 0 1 6++alK 7 8 11 13++alL 10 15 16++[.t 33 (roL .val),.t 34 roI,.t 35 roI,.t 54 (roL .val),.t 55 roI,.t 56 roI]) [(4,7),(7,7),(10,2)] [(4,4,0),(7,7,0),(10,10,0)]),(8,.c 80 (alK 4 0 1 6++alK 7 8 11 13++[.t 33 (roL .val),.t 34 roI,.t 35 roI]) [(4,7),(7,7)] [(4,4,0),(7,7,0)])] Tryz.f167
end
end Go.Proofs.YtjbajpfonnnfoaaGreatDoor
