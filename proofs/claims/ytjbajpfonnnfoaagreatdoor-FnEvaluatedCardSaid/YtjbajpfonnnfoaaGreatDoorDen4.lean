import Derived.Test.YtjbajpfonnnfoaaGreatDoorSrtGrp
/- The functions compute their models, by gen.py. -/
namespace Go.Proofs.YtjbajpfonnnfoaaGreatDoor
noncomputable section
open Go.Abs Go.Proofs
set_option maxRecDepth 100000
def aja:=ak8.f JV
def ai9:=aja.alT ZH [(3,.c 25 [.t 1 (roL .str),.t 5 (owE .str 0),.t 9 (roL .str),.t 10 roI,.t 11 roI] [] [])] Tryz.f205
def ai8:=ai9.alT acC [(16,.c 128 (alM 5++alK 6 0 1 2++[.t 9 roI,.t 10 roI]++alK 12 8 9 10++alN 14++[.t 69 (roL .row),.t 70 roI,.t 71 roI,.t 76 (roL .row),.t 77 roI,.t 78 roI]) [(5,7),(6,7),(12,7),(14,2)] [(5,5,0),(6,6,0),(12,12,0),(14,14,0)]),(13,.c 128 (alM 5++alK 6 0 1 2++[.t 9 roI,.t 10 roI]++alK 12 8 9 10++[.t 69 (roL .row),.t 70 roI,.t 71 roI]) [(5,7),(6,7),(12,7)] [(5,5,0),(6,6,0),(12,12,0)])] Tryz.f170
def ai7:=ai8.f (s:=Vl) (snd (ai8.tr.hol [100,102]) [(13,.c 110 (alK 8 0 1 2++[.t 11 roI,.t 12 roI]++alP 13 10++[.t 72 (roL .row),.t 73 roI,.t 74 roI]) [(8,7),(13,7)] [(8,8,0),(13,13,0)])] Tryz.f171)
def ai6:=ai7.alT JX [] Tryz.f127
def ai5:=ai6.alT Xu [] Tryz.f84
def ai4:=ai5.alT XB [(2,.c 22 (alQ 3++alK 4 0 1 2++[.t 8 (roL .read),.t 9 roI,.t 10 roI]) [(3,11),(4,7)] [(3,3,0),(4,4,0)])] Tryz.f33
def ai3:=ai4.alT akn [] Tryz.f206
def ai2:=ai3.alT OB [(2,.c 22 [.t 1 roS,.t 9 (roL .file),.t 10 roI,.t 11 roI] [] [])] Tryz.f207
def ai1:=ai2.alT JW [] Tryz.f174
def Xk:=ai1.mc (s:=IC) 6 (mcd ai1.mo [(2,{ n:=81,its:=alR 0++alQ 3++alK 4 1 2 5++[.t 13 roI,.t 14 roI],boxes:=[(0,9),(3,11),(4,7)],ptrs:=[(0,0,0),(3,3,0),(4,4,0)],als:=[(12,0,6)] })] 6 Tryz.f128)
theorem gY:∀n,fO Tryz.prog (qp n) 6/\fO Tryz.prog (sH n) 6/\fO Tryz.prog (qo n) 6/\fO Tryz.prog (qw n) 6
 | 0=>⟨(λw S R bb vs Et args x y h=>by cases h),(λw S R bb vs Et args x y h=>by cases h),(λw S R bb vs Et args x y h=>by cases h),(λw S R bb vs Et args x y h=>by cases h)⟩
 | n+1=>
  have ih:=gY n
  ⟨mcd (s:=qp (n+1)) ((((Xk.mc 6 ih.1).mc 6 ih.2.1).mc 6 ih.2.2.1).mc 6 ih.2.2.2).mo [] 6 Tryz.f30,
  mcd (s:=sH (n+1)) ((((Xk.mc 6 ih.1).mc 6 ih.2.1).mc 6 ih.2.2.1).mc 6 ih.2.2.2).mo [(3,.c 26 (alR 0++[.t 2 (roL .binding),.t 7 (.own (.base .val) false true 1),.t 11 (roL .expr),.t 12 roI,.t 13 roI]) [(0,9)] [(0,0,0)])] 6 Tryz.f76,
  mcd (s:=qo (n+1)) ((((Xk.mc 6 ih.1).mc 6 ih.2.1).mc 6 ih.2.2.1).mc 6 ih.2.2.2).mo [(8,.c 62 (alR 0++[.t 2 (roL .binding)]++alG 4++alK 6 1 2 3++[.t 8 (.own (.base .val) false true 5),.t 34 (roL .val),.t 35 roI,.t 36 roI]) [(0,9),(4,4),(6,7)] [(0,0,0),(4,4,0),(6,6,0)])] 6 Tryz.f80,
  mcd (s:=qw (n+1)) ((((Xk.mc 6 ih.1).mc 6 ih.2.1).mc 6 ih.2.2.1).mc 6 ih.2.2.2).mo [] 6 Tryz.f81⟩
theorem D7:fO Tryz.prog Oq 6:=.fuel qp (λn=>rfl) (λn=>(gY n).1) (λx=>siz (α:=aA) x.1+siz (α:=au) x.2.1+siz (α:=List ak) x.2.2+1) λx=>by kernel_rfl
def ak7:=Xk.mc 6 D7
theorem FM:fO Tryz.prog Qv 6:=.fuel sH (λn=>rfl) (λn=>(gY n).2.1) (λx=>siz (α:=aA) x.1+siz (α:=List au) x.2.1+siz (α:=List ak) x.2.2+1) λx=>by kernel_rfl
def ak6:=ak7.mc 6 FM
theorem D6:fO Tryz.prog Oo 6:=.fuel qo (λn=>rfl) (λn=>(gY n).2.2.1) (λx=>siz (α:=aA) x.1+siz (α:=au) x.2.1+siz (α:=List ak) x.2.2+1) λx=>by kernel_rfl
def ak5:=ak6.mc 6 D6
theorem D8:fO Tryz.prog Ot 6:=.fuel qw (λn=>rfl) (λn=>(gY n).2.2.2) (λx=>siz (α:=aA) x.1+siz (α:=au) x.2.1+siz (α:=List ak) x.2.2+1) λx=>by kernel_rfl
def ai0:=ak5.mc 6 D8
def aiZ:=ai0.f (s:=XC) (snd ai0.mo [] Tryz.f8)
def aiY:=aiZ.alT Hw [(4,.c 31 [.b 2 0 (roL .cell),.b 3 0 (roL .cell),.t 5 roI] [(2,1),(3,1)] [(2,2,0),(3,3,0)])] Tryz.f142
def aiX:=aiY.alT YK [(4,.c 26 [.t 0 (roL .str),.t 1 (roL .str),.t 5 roI] [] [])] Tryz.f129
def aiW:=aiX.alT abR [(4,.c 26 [.t 0 (roL .int),.t 1 (roL .int),.t 5 roI] [] [])] Tryz.f130
def aiV:=aiW.alT Ua [(4,.c 26 [.t 0 (roL .origin),.t 1 (roL .origin),.t 5 roI] [] [])] Tryz.f131
theorem y8:∀n,Sound Tryz.prog (Dk n)
 | 0=>.alX
 | n+1=>
  have ih:=y8 n
  snd (s:=Dk (n+1)) (aiV.f ih) [(9,.c 121 ([.t 2 (roE .bool)]++alM 3++alM 4++[.t 8 roI]) [(3,7),(4,7)] [(3,3,0),(4,4,0)]),(4,.c 121 ([.t 2 (roE .bool)]++alM 3++alM 4++[.t 7 roI]) [(3,7),(4,7)] [(3,3,0),(4,4,0)])] Tryz.f85
theorem PL:Sound Tryz.prog abL:=.fuel Dk (λn=>rfl) y8 (λx=>siz (α:=af) x.1+siz (α:=af) x.2.1+1) λx=>by kernel_rfl
def aiU:=aiV.f PL
def aiT:=aiU.alT P8 [] Tryz.f34
def aiS:=aiT.alT YQ [] Tryz.f216
def aiR:=aiS.alT YJ [(4,.c 41 [.t 0 (roL .read),.t 1 (roL .read),.t 5 roI] [] [])] Tryz.f191
def aiQ:=aiR.alT V4 [(4,.c 55 [.t 0 (roL .tape),.t 1 (roL .tape),.t 5 roI] [] [])] Tryz.f143
def aiP:=aiQ.alT Hy [] Tryz.f97
def aiO:=aiP.alT VX [] Tryz.f39
def aiN:=aiO.alT VY [] Tryz.f12
def aiM:=aiN.alT PG [] Tryz.f10
def aiL:=aiM.alT abG [(2,.c 27 ([.t 0 (roL .binding),.t 1 roS]++alK 4 0 1 2++[.t 5 roI]) [(4,7)] [(4,4,0)])] Tryz.f87
def aiK:=aiL.alT YI [(2,.c 31 ([.t 0 (roL .val)]++alK 2 0 1 3++[.t 4 roI]) [(2,7)] [(2,2,0)])] Tryz.f132
def aiJ:=aiK.alT TR [(3,.c 23 ([.t 0 (roL .val)]++alK 2 0 1 4++alK 3 5 6 7++[.t 4 roI]) [(2,7),(3,7)] [(2,2,0),(3,3,0)])] Tryz.f133
def aiI:=aiJ.alT Uo [(5,.c 40 ([.t 0 (roL .val)]++alK 2 0 1 4++[.t 5 roI]) [(2,7)] [(2,2,0)])] Tryz.f89
theorem ul:∀n,Sound Tryz.prog (uQ n)
 | 0=>.alX
 | n+1=>
  have ih:=ul n
  snd (s:=uQ (n+1)) (aiI.f ih) [(4,.c 35 (alG 1++[.t 3 roI]) [(1,4)] [(1,1,0)])] Tryz.f134
theorem Hu:Sound Tryz.prog Uk:=.fuel uQ (λn=>rfl) ul (λx=>siz (α:=au) x+1) λx=>by kernel_rfl
def aiH:=aiI.f Hu
def aiG:=aiH.alT VZ [] Tryz.f175
def aiF:=aiG.alT HY [] Tryz.f141
def aiE:=aiF.alT adE [(8,.c 50 (alM 1++alK 2 0 4 6++alK 5 7 8 11++[.t 6 roI]) [(1,7),(2,7),(5,7)] [(1,1,0),(2,2,0),(5,5,0)])] Tryz.f176
def aiD:=aiE.alT YH [(5,.c 34 ([.t 0 (roL .val),.t 1 (roL .int)]++alK 4 0 1 2++[.t 8 roI]) [(4,7)] [(4,4,0)])] Tryz.f208
def aiC:=aiD.alT Um [] Tryz.f177
def aiB:=aiC.alT abI [] Tryz.f209
def aiA:=aiB.alT adG [] Tryz.f180
def aiz:=aiA.alT abC [(8,.c 56 (alM 2++alM 3++alK 4 0 1 6++alK 7 8 10 11++[.t 8 roI]) [(2,7),(3,7),(4,7),(7,7)] [(2,2,0),(3,3,0),(4,4,0),(7,7,0)])] Tryz.f178
def aiy:=aiz.alT adN [] Tryz.f210
def aix:=aiy.alT abD [] Tryz.f179
def aiw:=aix.alT Wl [] Tryz.f181
def aiv:=aiw.alT TM [(4,.c 36 [.t 0 roS,.t 1 (roE .u8),.t 5 (owE .str 0),.t 6 roI,.t 7 roI] [] [])] Tryz.f211
def aiu:=aiv.alT Y9 [(2,.c 19 [.t 0 (roL .str),.t 1 roS,.t 5 roI] [] [])] Tryz.f47
def ait:=aiu.alT MV [] Tryz.f212
def ais:=ait.alT MN [(16,.c 95 (alM 3++alK 4 0 1 6++[.t 7 (roL .str)]++alO 8 7 9++[.t 10 roI]++alL 11 10 12++[.t 12 roI]) [(3,7),(4,7),(8,7),(11,2)] [(3,3,0),(4,4,0),(8,8,0),(11,11,0)]),(12,.c 95 (alM 3++alK 4 0 1 6++[.t 7 (roL .str)]++alO 8 7 9++[.t 10 roI]) [(3,7),(4,7),(8,7)] [(3,3,0),(4,4,0),(8,8,0)]),(7,.c 95 (alM 3++alK 4 0 1 6++[.t 7 (roL .str)]++alO 8 7 9++[.t 9 roI]) [(3,7),(4,7),(8,7)] [(3,3,0),(4,4,0),(8,8,0)])] Tryz.f182
def air:=ais.alT Wv [(11,.c 56 (alM 3++alK 4 0 1 6++[.t 7 roI]++alK 8 7 9 10++[.t 9 roI]) [(3,7),(4,7),(8,7)] [(3,3,0),(4,4,0),(8,8,0)])] Tryz.f183
def aiq:=air.alT TU [(3,.c 35 (alM 1++[.t 4 (owE .int 0),.t 5 roI]) [(1,7)] [(1,1,0)])] Tryz.f213
def aip:=aiq.alT YF [(8,.c 65 (alM 3++alK 4 0 1 6++alK 7 8 9 10++[.t 8 roI]) [(3,7),(4,7),(7,7)] [(3,3,0),(4,4,0),(7,7,0)])] Tryz.f184
def aio:=aip.alT PI [(9,.c 66 (alM 4++alM 5++alK 6 0 1 2++[.t 9 roI]++alK 10 8 9 11++[.t 11 roI]) [(4,7),(5,7),(6,7),(10,7)] [(4,4,0),(5,5,0),(6,6,0),(10,10,0)])] Tryz.f185
def ain:=aio.alT YG [(4,.c 87 [.t 0 (roL .origin),.t 1 (roL .origin),.t 5 (owE .origin 0),.t 6 roI,.t 7 roI] [] [])] Tryz.f225
def aim:=ain.alW adI [(4,.c 80 [.t 0 (roL .row),.t 1 roI,.t 2 roI,.t 3 (roL .origin),.t 9 (.own (.base .row) false true 0),.t 10 (roE .bool),.t 11 roI] [] [])] Tryz.f214
def ail:=aim.alW Wp [(14,.c 105 (alK 6 0 1 2++alS 11 8 9++[.t 13 roI]) [(6,7),(11,7)] [(6,6,0),(11,11,0)]),(10,.c 105 (alM 5++alK 6 0 1 2++[.t 9 roI,.t 10 roI]++alS 11 8 9++[.t 12 roI]) [(5,7),(6,7),(11,7)] [(5,5,0),(6,6,0),(11,11,0)])] Tryz.f186
def aik:=ail.alT abH [] Tryz.f215
def aij:=aik.alT abX [(18,.c 125 (alM 4++alM 5++alK 6 0 1 2++[.t 9 roI,.t 10 roI]++alK 11 8 9 10++[.t 12 roI,.t 13 roI]) [(4,7),(5,7),(6,7),(11,7)] [(4,4,0),(5,5,0),(6,6,0),(11,11,0)]),(15,.c 125 (alM 4++alM 5++alK 6 0 1 2++[.t 9 roI,.t 10 roI]++alK 11 8 9 10++[.t 12 roI]) [(4,7),(5,7),(6,7),(11,7)] [(4,4,0),(5,5,0),(6,6,0),(11,11,0)])] Tryz.f187
def aii:=aij.f (s:=Us) (snd (aij.tr.hol [106,108]) [(13,.c 115 (alM 7++alK 8 0 1 2++[.t 11 roI,.t 12 roI]++alP 13 10++[.t 14 roI]) [(7,7),(8,7),(13,7)] [(7,7,0),(8,8,0),(13,13,0)])] Tryz.f188)
def aif:=aii.alT JJ [] Tryz.f135
def aie:=aif.alT Wq [(2,.c 26 ([.t 0 (roL .read)]++alQ 3++alK 4 0 1 2++[.t 6 roI]) [(3,11),(4,7)] [(3,3,0),(4,4,0)])] Tryz.f189
def aid:=aie.alT YV [] Tryz.f226
def aic:=aid.alT ajV [] Tryz.f217
end
end Go.Proofs.YtjbajpfonnnfoaaGreatDoor
