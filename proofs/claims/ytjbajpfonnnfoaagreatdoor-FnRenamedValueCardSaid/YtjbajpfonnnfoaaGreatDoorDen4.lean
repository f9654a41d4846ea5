import Derived.Test.YtjbajpfonnnfoaaGreatDoorSrtGrp
/- The functions compute their models, by gen.py. -/
namespace Go.Proofs.YtjbajpfonnnfoaaGreatDoor
noncomputable section
open Go.Abs Go.Proofs
set_option maxRecDepth 100000
def ajQ:=alU.f J6
def ajP:=ajQ.anb Z7 [(3,.c 25 [.t 1 (roL .str),.t 5 (owE .str 0),.t 9 (roL .str),.t 10 roI,.t 11 roI] [] [])] Tryz.f205
def ajO:=ajP.anb ac4 [(16,.c 128 (am4 5++am2 6 0 1 2++[.t 9 roI,.t 10 roI]++am2 12 8 9 10++am5 14++[.t 69 (roL .row),.t 70 roI,.t 71 roI,.t 76 (roL .row),.t 77 roI,.t 78 roI]) [(5,7),(6,7),(12,7),(14,2)] [(5,5,0),(6,6,0),(12,12,0),(14,14,0)]),(13,.c 128 (am4 5++am2 6 0 1 2++[.t 9 roI,.t 10 roI]++am2 12 8 9 10++[.t 69 (roL .row),.t 70 roI,.t 71 roI]) [(5,7),(6,7),(12,7)] [(5,5,0),(6,6,0),(12,12,0)])] Tryz.f170
def ajN:=ajO.f (s:=VB) (snd (ajO.tr.hol [100,102]) [(13,.c 110 (am2 8 0 1 2++[.t 11 roI,.t 12 roI]++am7 13 10++[.t 72 (roL .row),.t 73 roI,.t 74 roI]) [(8,7),(13,7)] [(8,8,0),(13,13,0)])] Tryz.f171)
def ajM:=ajN.anb J9 [] Tryz.f127
def ajL:=ajM.anb XH [] Tryz.f84
def ajK:=ajL.anb XP [(2,.c 22 (am8 3++am2 4 0 1 2++[.t 8 (roL .read),.t 9 roI,.t 10 roI]) [(3,11),(4,7)] [(3,3,0),(4,4,0)])] Tryz.f33
def ajJ:=ajK.anb ak2 [] Tryz.f206
def ajI:=ajJ.anb OW [(2,.c 22 [.t 1 roS,.t 9 (roL .file),.t 10 roI,.t 11 roI] [] [])] Tryz.f207
def ajH:=ajI.anb J7 [] Tryz.f174
def Xy:=ajH.mc (s:=IY) 6 (mcd ajH.mo [(2,{ n:=81,its:=am9 0++am8 3++am2 4 1 2 5++[.t 13 roI,.t 14 roI],boxes:=[(0,9),(3,11),(4,7)],ptrs:=[(0,0,0),(3,3,0),(4,4,0)],als:=[(12,0,6)] })] 6 Tryz.f128)
theorem gW:∀n,fH Tryz.prog (qj n) 6/\fH Tryz.prog (sG n) 6/\fH Tryz.prog (qi n) 6/\fH Tryz.prog (ql n) 6
 | 0=>⟨(λw S R bb vs Et args x y h=>by cases h),(λw S R bb vs Et args x y h=>by cases h),(λw S R bb vs Et args x y h=>by cases h),(λw S R bb vs Et args x y h=>by cases h)⟩
 | n+1=>
  have ih:=gW n
  ⟨mcd (s:=qj (n+1)) ((((Xy.mc 6 ih.1).mc 6 ih.2.1).mc 6 ih.2.2.1).mc 6 ih.2.2.2).mo [] 6 Tryz.f30,
  mcd (s:=sG (n+1)) ((((Xy.mc 6 ih.1).mc 6 ih.2.1).mc 6 ih.2.2.1).mc 6 ih.2.2.2).mo [(3,.c 26 (am9 0++[.t 2 (roL .binding),.t 7 (.own (.base .val) false true 1),.t 11 (roL .expr),.t 12 roI,.t 13 roI]) [(0,9)] [(0,0,0)])] 6 Tryz.f76,
  mcd (s:=qi (n+1)) ((((Xy.mc 6 ih.1).mc 6 ih.2.1).mc 6 ih.2.2.1).mc 6 ih.2.2.2).mo [(8,.c 62 (am9 0++[.t 2 (roL .binding)]++amY 4++am2 6 1 2 3++[.t 8 (.own (.base .val) false true 5),.t 34 (roL .val),.t 35 roI,.t 36 roI]) [(0,9),(4,4),(6,7)] [(0,0,0),(4,4,0),(6,6,0)])] 6 Tryz.f80,
  mcd (s:=ql (n+1)) ((((Xy.mc 6 ih.1).mc 6 ih.2.1).mc 6 ih.2.2.1).mc 6 ih.2.2.2).mo [] 6 Tryz.f81⟩
theorem Em:fH Tryz.prog OM 6:=.fuel qj (λn=>rfl) (λn=>(gW n).1) (λx=>siz (α:=aA) x.1+siz (α:=ak) x.2.1+siz (α:=List au) x.2.2+1) λx=>by kernel_rfl
def alT:=Xy.mc 6 Em
theorem Gj:fH Tryz.prog QK 6:=.fuel sG (λn=>rfl) (λn=>(gW n).2.1) (λx=>siz (α:=aA) x.1+siz (α:=List ak) x.2.1+siz (α:=List au) x.2.2+1) λx=>by kernel_rfl
def alS:=alT.mc 6 Gj
theorem Ej:fH Tryz.prog OL 6:=.fuel qi (λn=>rfl) (λn=>(gW n).2.2.1) (λx=>siz (α:=aA) x.1+siz (α:=ak) x.2.1+siz (α:=List au) x.2.2+1) λx=>by kernel_rfl
def alR:=alS.mc 6 Ej
theorem En:fH Tryz.prog OO 6:=.fuel ql (λn=>rfl) (λn=>(gW n).2.2.2) (λx=>siz (α:=aA) x.1+siz (α:=ak) x.2.1+siz (α:=List au) x.2.2+1) λx=>by kernel_rfl
def ajG:=alR.mc 6 En
def ajF:=ajG.f (s:=XQ) (snd ajG.mo [] Tryz.f8)
def ajE:=ajF.anb Ih [(4,.c 31 [.b 2 0 (roL .cell),.b 3 0 (roL .cell),.t 5 roI] [(2,1),(3,1)] [(2,2,0),(3,3,0)])] Tryz.f142
def ajD:=ajE.anb Y0 [(4,.c 26 [.t 0 (roL .str),.t 1 (roL .str),.t 5 roI] [] [])] Tryz.f129
def ajC:=ajD.anb acp [(4,.c 26 [.t 0 (roL .int),.t 1 (roL .int),.t 5 roI] [] [])] Tryz.f130
def ajB:=ajC.anb Uo [(4,.c 26 [.t 0 (roL .origin),.t 1 (roL .origin),.t 5 roI] [] [])] Tryz.f131
theorem zO:∀n,Sound Tryz.prog (DC n)
 | 0=>.ang
 | n+1=>
  have ih:=zO n
  snd (s:=DC (n+1)) (ajB.f ih) [(9,.c 121 ([.t 2 (roE .bool)]++am4 3++am4 4++[.t 8 roI]) [(3,7),(4,7)] [(3,3,0),(4,4,0)]),(4,.c 121 ([.t 2 (roE .bool)]++am4 3++am4 4++[.t 7 roI]) [(3,7),(4,7)] [(3,3,0),(4,4,0)])] Tryz.f85
theorem Qa:Sound Tryz.prog ach:=.fuel DC (λn=>rfl) zO (λx=>siz (α:=af) x.1+siz (α:=af) x.2.1+1) λx=>by kernel_rfl
def ajA:=ajB.f Qa
def ajz:=ajA.anb Qp [] Tryz.f34
def ajy:=ajz.anb Y6 [] Tryz.f216
def ajx:=ajy.anb YZ [(4,.c 41 [.t 0 (roL .read),.t 1 (roL .read),.t 5 roI] [] [])] Tryz.f191
def ajw:=ajx.anb Wx [(4,.c 55 [.t 0 (roL .tape),.t 1 (roL .tape),.t 5 roI] [] [])] Tryz.f143
def ajv:=ajw.anb Ii [] Tryz.f97
def aju:=ajv.anb Wq [] Tryz.f39
def ajt:=aju.anb Ws [] Tryz.f12
def ajs:=ajt.anb P7 [] Tryz.f10
def ajr:=ajs.anb ab9 [(2,.c 27 ([.t 0 (roL .binding),.t 1 roS]++am2 4 0 1 2++[.t 5 roI]) [(4,7)] [(4,4,0)])] Tryz.f87
def ajq:=ajr.anb YX [(2,.c 31 ([.t 0 (roL .val)]++am2 2 0 1 3++[.t 4 roI]) [(2,7)] [(2,2,0)])] Tryz.f132
def ajp:=ajq.anb Uj [(3,.c 23 ([.t 0 (roL .val)]++am2 2 0 1 4++am2 3 5 6 7++[.t 4 roI]) [(2,7),(3,7)] [(2,2,0),(3,3,0)])] Tryz.f133
def ajo:=ajp.anb UF [(5,.c 40 ([.t 0 (roL .val)]++am2 2 0 1 4++[.t 5 roI]) [(2,7)] [(2,2,0)])] Tryz.f89
theorem uq:∀n,Sound Tryz.prog (uZ n)
 | 0=>.ang
 | n+1=>
  have ih:=uq n
  snd (s:=uZ (n+1)) (ajo.f ih) [(4,.c 35 (amY 1++[.t 3 roI]) [(1,4)] [(1,1,0)])] Tryz.f134
theorem Ig:Sound Tryz.prog UC:=.fuel uZ (λn=>rfl) uq (λx=>siz (α:=ak) x+1) λx=>by kernel_rfl
def ajn:=ajo.f Ig
def ajm:=ajn.anb Wu [] Tryz.f175
def ajl:=ajm.anb Ik [] Tryz.f141
def ajk:=ajl.anb aea [(8,.c 50 (am4 1++am2 2 0 4 6++am2 5 7 8 11++[.t 6 roI]) [(1,7),(2,7),(5,7)] [(1,1,0),(2,2,0),(5,5,0)])] Tryz.f176
def ajj:=ajk.anb YW [(5,.c 34 ([.t 0 (roL .val),.t 1 (roL .int)]++am2 4 0 1 2++[.t 8 roI]) [(4,7)] [(4,4,0)])] Tryz.f208
def aji:=ajj.anb UD [] Tryz.f177
def ajh:=aji.anb ace [] Tryz.f209
def ajg:=ajh.anb aec [] Tryz.f180
def ajf:=ajg.anb ab6 [(8,.c 56 (am4 2++am4 3++am2 4 0 1 6++am2 7 8 10 11++[.t 8 roI]) [(2,7),(3,7),(4,7),(7,7)] [(2,2,0),(3,3,0),(4,4,0),(7,7,0)])] Tryz.f178
def aje:=ajf.anb aej [] Tryz.f210
def ajd:=aje.anb ab7 [] Tryz.f179
def ajc:=ajd.anb WJ [] Tryz.f181
def ajb:=ajc.anb Ug [(4,.c 36 [.t 0 roS,.t 1 (roE .u8),.t 5 (owE .str 0),.t 6 roI,.t 7 roI] [] [])] Tryz.f211
def aja:=ajb.anb Zn [(2,.c 19 [.t 0 (roL .str),.t 1 roS,.t 5 roI] [] [])] Tryz.f47
def ai9:=aja.anb Nk [] Tryz.f212
def ai8:=ai9.anb MZ [(16,.c 95 (am4 3++am2 4 0 1 6++[.t 7 (roL .str)]++am6 8 7 9++[.t 10 roI]++am3 11 10 12++[.t 12 roI]) [(3,7),(4,7),(8,7),(11,2)] [(3,3,0),(4,4,0),(8,8,0),(11,11,0)]),(12,.c 95 (am4 3++am2 4 0 1 6++[.t 7 (roL .str)]++am6 8 7 9++[.t 10 roI]) [(3,7),(4,7),(8,7)] [(3,3,0),(4,4,0),(8,8,0)]),(7,.c 95 (am4 3++am2 4 0 1 6++[.t 7 (roL .str)]++am6 8 7 9++[.t 9 roI]) [(3,7),(4,7),(8,7)] [(3,3,0),(4,4,0),(8,8,0)])] Tryz.f182
def ai7:=ai8.anb WT [(11,.c 56 (am4 3++am2 4 0 1 6++[.t 7 roI]++am2 8 7 9 10++[.t 9 roI]) [(3,7),(4,7),(8,7)] [(3,3,0),(4,4,0),(8,8,0)])] Tryz.f183
def ai6:=ai7.anb Ul [(3,.c 35 (am4 1++[.t 4 (owE .int 0),.t 5 roI]) [(1,7)] [(1,1,0)])] Tryz.f213
def ai5:=ai6.anb YU [(8,.c 65 (am4 3++am2 4 0 1 6++am2 7 8 9 10++[.t 8 roI]) [(3,7),(4,7),(7,7)] [(3,3,0),(4,4,0),(7,7,0)])] Tryz.f184
def ai4:=ai5.anb P8 [(9,.c 66 (am4 4++am4 5++am2 6 0 1 2++[.t 9 roI]++am2 10 8 9 11++[.t 11 roI]) [(4,7),(5,7),(6,7),(10,7)] [(4,4,0),(5,5,0),(6,6,0),(10,10,0)])] Tryz.f185
def ai3:=ai4.anb YV [(4,.c 87 [.t 0 (roL .origin),.t 1 (roL .origin),.t 5 (owE .origin 0),.t 6 roI,.t 7 roI] [] [])] Tryz.f225
def ai2:=ai3.anf aee [(4,.c 80 [.t 0 (roL .row),.t 1 roI,.t 2 roI,.t 3 (roL .origin),.t 9 (.own (.base .row) false true 0),.t 10 (roE .bool),.t 11 roI] [] [])] Tryz.f214
def ai1:=ai2.anf WO [(14,.c 105 (am2 6 0 1 2++ana 11 8 9++[.t 13 roI]) [(6,7),(11,7)] [(6,6,0),(11,11,0)]),(10,.c 105 (am4 5++am2 6 0 1 2++[.t 9 roI,.t 10 roI]++ana 11 8 9++[.t 12 roI]) [(5,7),(6,7),(11,7)] [(5,5,0),(6,6,0),(11,11,0)])] Tryz.f186
def ai0:=ai1.anb acd [] Tryz.f215
def aiZ:=ai0.anb acy [(18,.c 125 (am4 4++am4 5++am2 6 0 1 2++[.t 9 roI,.t 10 roI]++am2 11 8 9 10++[.t 12 roI,.t 13 roI]) [(4,7),(5,7),(6,7),(11,7)] [(4,4,0),(5,5,0),(6,6,0),(11,11,0)]),(15,.c 125 (am4 4++am4 5++am2 6 0 1 2++[.t 9 roI,.t 10 roI]++am2 11 8 9 10++[.t 12 roI]) [(4,7),(5,7),(6,7),(11,7)] [(4,4,0),(5,5,0),(6,6,0),(11,11,0)])] Tryz.f187
def aiY:=aiZ.f (s:=UH) (snd (aiZ.tr.hol [106,108]) [(13,.c 115 (am4 7++am2 8 0 1 2++[.t 11 roI,.t 12 roI]++am7 13 10++[.t 14 roI]) [(7,7),(8,7),(13,7)] [(7,7,0),(8,8,0),(13,13,0)])] Tryz.f188)
def aiX:=aiY.anb JU [] Tryz.f135
def aiW:=aiX.anb WQ [(2,.c 26 ([.t 0 (roL .read)]++am8 3++am2 4 0 1 2++[.t 6 roI]) [(3,11),(4,7)] [(3,3,0),(4,4,0)])] Tryz.f189
def aiV:=aiW.anb Zb [] Tryz.f226
def aiU:=aiV.anb akD [] Tryz.f217
end
end Go.Proofs.YtjbajpfonnnfoaaGreatDoor
