import Derived.Test.YtbbmkcioplbhbaaGreatDoorSrtWalk
/- The functions compute their models, by gen.py. -/
namespace Go.Proofs.YtbbmkcioplbhbaaGreatDoor
noncomputable section
open Go.Abs Go.Proofs
set_option maxRecDepth 100000
def aqH:=aqI.f KR
def aog:=aqH.f Ja
theorem yB:∀n,Sound Tryz.prog (Jf n)
 | 0=>(fun w S args x y h=>by cases h)
 | n+1=>
  have ih:=yB n
  snd (s:=Jf (n+1)) (aog.f ih) [(3,.c 29 [.b 2 0 roI,.b 2 1 roI,.b 2 2 roS,.b 2 3 (owE .expr 0),.b 3 0 roI,.b 3 1 roI,.b 3 2 roS,.b 3 3 (owE .expr 4),.t 14 (roL .expr),.t 15 roI,.t 16 roI] [(2,4),(3,4)] [(2,2,0),(3,3,0)])] Tryz.f234
theorem N7:Sound Tryz.prog abE:=fun w S args x y h=>(yB (siz (α:=af) x+1)) w S args x y h
def aof:=aog.f N7
theorem AU:∀n,Sound Tryz.prog (Nj n)
 | 0=>(fun w S args x y h=>by cases h)
 | n+1=>
  have ih:=AU n
  snd (s:=Nj (n+1)) (aof.f ih) [(6,.c 74 [.t 1 roS,.t 2 roS,.b 6 0 roI,.b 6 1 roI,.b 6 2 roS,.b 6 3 (owE .expr 0),.b 7 0 roI,.b 7 1 roI,.b 7 2 roS,.b 7 3 (owE .expr 1),.t 8 (roE .bool),.t 44 (roL .expr),.t 45 roI,.t 46 roI] [(6,4),(7,4)] [(6,6,0),(7,7,0)])] Tryz.f185
theorem Ry:Sound Tryz.prog aej:=fun w S args x y h=>(AU (siz (α:=af) x.1+1)) w S args x y h
def aoe:=aof.f Ry
def aqG:=aoe.f (s:=UI) (snd aoe [] Tryz.f141)
def aod:=aqG.f UB
def aqF:=aod.f (s:=YV) (snd aod [] Tryz.f235)
def aoc:=aqF.f UA
def aob:=aoc.f (s:=ama) (snd aoc [] Tryz.f274)
def afK:=aob.f (s:=aeo) (snd aob [] Tryz.f237)
theorem oO:∀n,Sound Tryz.prog (Rw n)/\Sound Tryz.prog (Nh n)/\Sound Tryz.prog (Jb n)
 | 0=>⟨(fun w S args x y h=>by cases h),(fun w S args x y h=>by cases h),(fun w S args x y h=>by cases h)⟩
 | n+1=>
  have ih:=oO n
  ⟨snd (s:=Rw (n+1)) (((afK.f ih.1).f ih.2.1).f ih.2.2) [] Tryz.f186,
  snd (s:=Nh (n+1)) (((afK.f ih.1).f ih.2.1).f ih.2.2) [(3,.c 21 [.t 3 (owE .str 0),.t 7 (roL .expr),.t 8 roI,.t 9 roI] [] [])] Tryz.f236,
  snd (s:=Jb (n+1)) (((afK.f ih.1).f ih.2.1).f ih.2.2) [] Tryz.f238⟩
theorem UF:Sound Tryz.prog aht:=fun w S args x y h=>(oO (siz (α:=af) x+1)).1 w S args x y h
def aqE:=afK.f UF
theorem Rt:Sound Tryz.prog aeg:=fun w S args x y h=>(oO (siz (α:=List af) x+1)).2.1 w S args x y h
def aqD:=aqE.f Rt
theorem NY:Sound Tryz.prog abz:=fun w S args x y h=>(oO (siz (α:=af) x.1+1)).2.2 w S args x y h
def aoa:=aqD.f NY
def an9:=aoa.f (s:=UZ) (snd aoa [] Tryz.f142)
def an8:=an9.f (s:=Sm) (snd an9 [] Tryz.f95)
def an7:=an8.f (s:=Y7) (snd an8 [(2,.c 49 [.b 2 0 roI,.b 2 1 roI,.b 2 2 roI,.b 2 3 roI,.b 2 4 roI,.b 2 5 roS,.b 2 6 roS,.b 2 7 roI,.b 4 0 roI,.b 4 1 roI,.b 4 2 roI,.b 4 3 roI,.b 4 4 roI,.b 4 5 roS,.b 4 6 roS,.b 4 7 roI,.t 7 (roL .op),.t 8 roI,.t 9 roI] [(2,8),(4,8)] [(2,2,0),(4,4,0)])] Tryz.f42)
def an6:=an7.f (s:=NR) (snd an7 [] Tryz.f43)
def an5:=an6.f (s:=RN) (snd an6 [] Tryz.f239)
def aqC:=an5.f (s:=U0) (snd an5 [] Tryz.f240)
def an4:=aqC.f QZ
def an3:=an4.f (s:=YA) (snd an4 [] Tryz.f276)
def an2:=an3.f (s:=aev) (snd an3 [(4,.c 38 [.t 1 roI,.t 7 (owE .int 0),.t 15 (owE .str 1),.t 16 roI,.t 17 roI] [] [])] Tryz.f277)
def an1:=an2.f (s:=Sl) (snd an2 [(2,.c 18 [.t 0 (roL .str),.t 5 (roL .str),.t 6 roI,.t 7 roI] [] [])] Tryz.f301)
def an0:=an1.f (s:=U3) (snd an1 [(2,.c 22 [.t 0 (roL .str),.t 5 (roL .str),.t 6 roI,.t 7 roI] [] [])] Tryz.f279)
def anZ:=an0.f (s:=abw) (snd an0 [] Tryz.f298)
def anY:=anZ.f (s:=NV) (snd anZ [] Tryz.f329)
def afJ:=anY.f (s:=aer) (snd anY [(15,.c 77 [.b 1 0 roI,.b 1 1 roI,.b 1 2 roI,.b 1 3 roS,.b 1 4 (roL .val),.b 1 5 (roL .str),.b 1 6 (roL .row),.b 4 0 (roL .int),.b 4 1 (roL .origin),.t 20 (roL .row),.t 21 roI,.t 22 roI,.t 45 (roL .origin),.t 46 roI,.t 47 roI] [(1,7),(4,2)] [(1,1,0),(4,4,0)]),(9,.c 77 [.b 1 0 roI,.b 1 1 roI,.b 1 2 roI,.b 1 3 roS,.b 1 4 (roL .val),.b 1 5 (roL .str),.b 1 6 (roL .row),.b 4 0 (roL .int),.b 4 1 (roL .origin),.t 20 (roL .row),.t 21 roI,.t 22 roI,.t 34 (roL .int),.t 35 roI,.t 36 roI] [(1,7),(4,2)] [(1,1,0),(4,4,0)]),(4,.c 77 [.b 1 0 roI,.b 1 1 roI,.b 1 2 roI,.b 1 3 roS,.b 1 4 (roL .val),.b 1 5 (roL .str),.b 1 6 (roL .row),.t 20 (roL .row),.t 21 roI,.t 22 roI] [(1,7)] [(1,1,0)])] Tryz.f299)
theorem I9(n:Int)(step:Int)(text:Str)(columns:List Str)(rows:List bD):aeO afJ.1 [] Tryz.f278 iI.ps iI.rs iI.ex (⟨5,n,step,text,[],columns,rows⟩:aF)=jU ⟨5,n,step,text,[],columns,rows⟩:=by kernel_rfl
theorem E5:Sound Tryz.prog iI:=
 Sound.weaken (f:=fun x=>aeO afJ.1 [] Tryz.f278 iI.ps iI.rs iI.ex x) (yU afJ.2 uF [] (fn:=Tryz.f278) (by kernel_rfl) fun x=>rfl) fun x y h=>by
  obtain⟨kind,n,step,text,list,columns,rows⟩:=x;cases a:((kind==5)&&list.isEmpty)with
  | false=>
   have h:(bif ((kind==5)&&list.isEmpty)then jU ⟨kind,n,step,text,list,columns,rows⟩else none)=some y:=h;rw[a]at h;cases h
  | true=>
   have h:(bif ((kind==5)&&list.isEmpty)then jU ⟨kind,n,step,text,list,columns,rows⟩else none)=some y:=h;rw[a]at h;simp only[zI,beq_iff_eq,List.isEmpty_iff]at a;obtain⟨h_kind,h_list⟩:=a;subst kind list;exact (I9 n step text columns rows).trans h
def anX:=afJ.f E5
def anW:=anX.f (s:=YO) (snd anX [(4,.c 48 [.b 2 0 roI,.b 2 1 roI,.b 2 2 roI,.b 2 3 roS,.b 2 4 (owE .val 0),.b 2 5 (owE .str 1),.b 2 6 (owE .row 3),.b 5 0 roI,.b 5 1 roI,.b 5 2 roI,.b 5 3 roS,.b 5 4 (owE .val 4),.b 5 5 (owE .str 6),.b 5 6 (owE .row 7),.t 18 (roL .str),.t 19 roI,.t 20 roI] [(2,7),(5,7)] [(2,2,0),(5,5,0)])] Tryz.f241)
def anV:=anW.f (s:=YX) (snd anW [(9,.c 50 [.t 6 (owE .str 0),.t 27 (roL .str),.t 28 roI,.t 29 roI] [] [])] Tryz.f242)
def anU:=anV.f (s:=Ru) (snd anV [(5,.c 39 [.t 0 roI,.b 4 0 roI,.b 4 1 roI,.b 4 2 roI,.b 4 3 roS,.b 4 4 (owE .val 0),.b 4 5 (owE .str 1),.b 4 6 (owE .row 2),.b 5 0 roI,.b 5 1 roI,.b 5 2 roI,.b 5 3 roS,.b 5 4 (owE .val 6),.b 5 5 (owE .str 7),.b 5 6 (owE .row 8),.t 24 roI,.t 25 roI] [(4,7),(5,7)] [(4,4,0),(5,5,0)])] Tryz.f243)
def anT:=anU.f (s:=Sj) (snd anU [] Tryz.f187)
def anS:=anT.s (s:=U2) (ssd anT [(5,.c 24 [.t 3 (.own (.base .part) false true 0),.t 11 (roL .cell),.t 12 roI,.t 13 roI] [] [])] Tryz.f143)
def anR:=anS.f (s:=abA) (snd anS [(3,.c 31 [.t 1 roS,.t 5 (owE .int 0),.t 9 (roL .part),.t 10 roI,.t 11 roI] [] [])] Tryz.f146)
def anQ:=anR.f (s:=aei) (snd anR [] Tryz.f145)
def VU:=anQ.f (s:=aho) (snd anQ [] Tryz.f147)
theorem KJ:Sound Tryz.prog YI:=snd VU [(23,.c 156 [.t 1 roS,.t 2 roS,.t 3 (roE .bool),.b 4 0 (roL .cell),.b 8 0 (owE .cell 0),.b 16 0 (owE .cell 1),.t 17 (roE .bool),.t 96 (roL .part),.t 97 roI,.t 98 roI] [(4,1),(8,1),(16,1)] [(4,4,0),(8,8,0),(16,16,0)]),(10,.c 156 [.t 1 roS,.t 2 roS,.t 3 (roE .bool),.b 4 0 (roL .cell),.b 8 0 (owE .cell 0),.t 10 (roL .part),.t 11 roI,.t 12 (roE .bool),.t 13 (roE .bool),.t 54 (roL .part),.t 55 roI,.t 56 roI] [(4,1),(8,1)] [(4,4,0),(8,8,0)])] Tryz.f96
theorem NT:Sound Tryz.prog abn:=snd VU [(23,.c 156 [.t 1 roS,.t 2 roS,.t 3 (roE .bool),.b 4 0 (roL .cell),.b 8 0 (owE .cell 0),.b 16 0 (owE .cell 1),.t 17 (roE .bool),.t 96 (roL .part),.t 97 roI,.t 98 roI] [(4,1),(8,1),(16,1)] [(4,4,0),(8,8,0),(16,16,0)]),(10,.c 156 [.t 1 roS,.t 2 roS,.t 3 (roE .bool),.b 4 0 (roL .cell),.b 8 0 (owE .cell 0),.t 10 (roL .part),.t 11 roI,.t 12 (roE .bool),.t 13 (roE .bool),.t 54 (roL .part),.t 55 roI,.t 56 roI] [(4,1),(8,1)] [(4,4,0),(8,8,0)])] Tryz.f96
theorem GN:Sound Tryz.prog RG:=snd (VU.f KJ) [(11,.c 56 [.b 3 0 (roL .cell),.b 6 0 (owE .cell 0),.b 10 0 (owE .cell 1),.t 39 roI,.t 40 roI] [(3,1),(6,1),(10,1)] [(3,3,0),(6,6,0),(10,10,0)]),(3,.c 56 [.t 1 roS,.t 2 roS,.b 3 0 (roL .cell),.b 6 0 (owE .cell 0),.b 8 0 (owE .cell 1),.t 17 roI,.t 18 roI] [(3,1),(6,1),(8,1)] [(3,3,0),(6,6,0),(8,8,0)])] Tryz.f45
theorem GL:Sound Tryz.prog RD:=snd (VU.f NT) [(11,.c 56 [.b 3 0 (roL .cell),.b 6 0 (owE .cell 0),.b 10 0 (roL .cell),.t 39 roI,.t 40 roI] [(3,1),(6,1),(10,1)] [(3,3,0),(6,6,0),(10,10,0)]),(3,.c 56 [.t 1 roS,.t 2 roS,.b 3 0 (roL .cell),.b 6 0 (owE .cell 0),.b 8 0 (owE .cell 1),.t 17 roI,.t 18 roI] [(3,1),(6,1),(8,1)] [(3,3,0),(6,6,0),(8,8,0)])] Tryz.f45
def anP:=VU.f (s:=Yz) (snd VU [(2,.c 28 [.t 1 roI,.t 2 roI,.t 9 (roL .tape),.t 10 roI,.t 11 roI] [] [])] Tryz.f98)
def anO:=anP.f (s:=abl) (snd anP [] Tryz.f193)
def anN:=anO.f (s:=aby) (snd anO [(2,.c 22 [.b 3 0 roI,.b 3 1 roI,.b 3 2 roI,.b 3 3 roS,.b 3 4 roI,.b 3 5 roI,.b 3 6 roI,.b 3 7 roS,.b 3 8 (roL .val),.b 3 9 (roL .str),.b 3 10 (roL .row),.b 4 0 roI,.b 4 1 roI,.b 4 2 roI,.b 4 3 roS,.b 4 4 (owE .val 0),.b 4 5 (owE .str 1),.b 4 6 (owE .row 2),.t 8 (roL .read),.t 9 roI,.t 10 roI] [(3,11),(4,7)] [(3,3,0),(4,4,0)])] Tryz.f150)
def anM:=anN.f (s:=UQ) (snd anN [(3,.c 33 [.t 5 (owE .read 0),.t 12 (roL .read),.t 13 roI,.t 14 roI] [] [])] Tryz.f99)
def anL:=anM.f (s:=UE) (snd anM [] Tryz.f100)
def ajR:=anL.f (s:=ael) (snd (anL.cuts [(12,9,10,66,65)]) [(10,.c 68 [.t 9 (owE .tape 0),.t 10 roI,.b 11 0 roI,.b 11 1 roI,.b 11 2 (owE .read 1)] [(11,3)] [(11,11,0)])] Tryz.f47)
theorem KI:Sound Tryz.prog YE:=snd (ajR.f GN) [] Tryz.f12
theorem KH:Sound Tryz.prog YD:=snd (ajR.f GL) [] Tryz.f12
theorem NS:Sound Tryz.prog abm:=Sound.two (h1:=KI) (h2:=KH)
def anK:=ajR.f NS
def anJ:=anK.f (s:=aky) (snd anK [(4,.c 26 [.t 0 (roL .int),.t 1 (roL .int),.t 5 roI] [] [])] Tryz.f50)
def anI:=anJ.f (s:=akA) (snd anJ [] Tryz.f103)
def anH:=anI.f (s:=akz) (snd anI [] Tryz.f51)
def anG:=anH.f (s:=abW) (snd anH [(4,.c 26 [.t 0 (roL .str),.t 1 (roL .str),.t 5 roI] [] [])] Tryz.f195)
def anF:=anG.f (s:=aeJ) (snd anG [] Tryz.f302)
def anE:=anF.f (s:=abY) (snd anF [(4,.c 27 [.t 0 (roL .origin),.t 1 (roL .origin),.t 5 roI] [] [])] Tryz.f280)
def anD:=anE.f (s:=amk) (snd anE [] Tryz.f245)
def ajQ:=anD.f (s:=aku) (snd anD [(4,.c 27 [.t 0 (roL .row),.t 1 (roL .row),.t 5 roI] [] [])] Tryz.f196)
theorem uU:∀n,Sound Tryz.prog (SI n)/\Sound Tryz.prog (Nr n)
 | 0=>⟨(fun w S args x y h=>by cases h),(fun w S args x y h=>by cases h)⟩
 | n+1=>
  have ih:=uU n
  ⟨snd (s:=SI (n+1)) ((ajQ.f ih.1).f ih.2) [] Tryz.f151,
  snd (s:=Nr (n+1)) ((ajQ.f ih.1).f ih.2) [(4,.c 27 [.t 0 (roL .val),.t 1 (roL .val),.t 5 roI] [] [])] Tryz.f194⟩
theorem U9:Sound Tryz.prog ahJ:=fun w S args x y h=>(uU (siz (α:=aF) x.1+siz (α:=aF) x.2+1)).1 w S args x y h
def aqB:=ajQ.f U9
theorem SH:Sound Tryz.prog aeG:=fun w S args x y h=>(uU (siz (α:=List aF) x.1+siz (α:=List aF) x.2+1)).2 w S args x y h
def anC:=aqB.f SH
def anB:=anC.f (s:=akv) (snd anC [] Tryz.f104)
def anA:=anB.f (s:=ahO) (snd anB [(4,.c 27 [.t 0 (roL .read),.t 1 (roL .read),.t 5 roI] [] [])] Tryz.f52)
def anz:=anA.f (s:=ap7) (snd anA [] Tryz.f14)
def anx:=anz.f (s:=amm) (snd anz [(4,.c 27 [.t 0 (roL .op),.t 1 (roL .op),.t 5 roI] [] [])] Tryz.f15)
end
end Go.Proofs.YtbbmkcioplbhbaaGreatDoor
