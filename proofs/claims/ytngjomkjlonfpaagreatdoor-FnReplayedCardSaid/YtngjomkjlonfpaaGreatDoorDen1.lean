import Derived.Test.YtngjomkjlonfpaaGreatDoorDen0
/- The functions compute their models, by gen.py. -/
namespace Go.Proofs.YtngjomkjlonfpaaGreatDoor
noncomputable section
open Go.Abs Go.Proofs
set_option maxRecDepth 100000
def kk63:=kk62.s (s:=KI) (ssd kk62 [] Tryz.f5)
def kk64:=kk63.f (s:=aew) (snd kk63 [(3,.c 22 [.t 1 roI,.t 5 roI,.t 8 (roL .op),.t 9 roI,.t 10 roI] [] [])] Tryz.f33)
def kk65:=kk64.f (s:=aes) (snd kk64 [] Tryz.f13)
def kk66:=kk65.f (s:=OA) (snd kk65 [] Tryz.f64)
def apj:=kk66.f (s:=aex) (snd kk66 [] Tryz.f150)
theorem pV:∀n,Sound Tryz.prog (FP n)/\Sound Tryz.prog (DL n)
 | 0=>⟨(fun w S args x y h=>by cases h),(fun w S args x y h=>by cases h)⟩
 | n+1=>
  have ih:=pV n
  ⟨snd (s:=FP (n+1)) ((apj.f ih.1).f ih.2) [(6,.c 33 [.b 2 0 roI,.b 2 1 roI,.b 2 2 roI,.b 2 3 roS,.b 2 4 (owE .val 0),.b 2 5 (owE .str 4),.b 2 6 (owE .row 6),.b 3 0 roI,.b 3 1 roI,.b 3 2 roI,.b 3 3 roS,.b 3 4 (owE .val 7),.b 3 5 (owE .str 8),.b 3 6 (owE .row 10),.t 18 (roL .row),.t 19 roI,.t 20 roI] [(2,7),(3,7)] [(2,2,0),(3,3,0)])] Tryz.f113,
  snd (s:=DL (n+1)) ((apj.f ih.1).f ih.2) [(3,.c 20 [.t 3 (owE .val 0),.t 7 (roL .val),.t 8 roI,.t 9 roI] [] [])] Tryz.f149⟩
theorem LK:Sound Tryz.prog Y5:=fun w S args x y h=>(pV (siz (α:=aQ) x+1)).1 w S args x y h
def kk68:=apj.f LK
theorem JB:Sound Tryz.prog Vu:=fun w S args x y h=>(pV (siz (α:=List aQ) x+1)).2 w S args x y h
def kk69:=kk68.f JB
def kk70:=kk69.f (s:=Y7) (snd kk69 [(3,.c 23 [.t 3 (owE .read 0),.t 7 (roL .read),.t 8 roI,.t 9 roI] [] [])] Tryz.f72)
def kk71:=kk70.f (s:=Y6) (snd kk70 [(3,.c 26 [.t 3 (owE .tape 0),.t 7 (roL .tape),.t 8 roI,.t 9 roI] [] [])] Tryz.f65)
def kk72:=kk71.f (s:=ahp) (snd kk71 [] Tryz.f40)
def kk73:=kk72.f (s:=aey) (snd kk72 [(3,.c 20 [.t 3 (owE .op 0),.t 7 (roL .op),.t 8 roI,.t 9 roI] [] [])] Tryz.f66)
def kk74:=kk73.f (s:=OC) (snd kk73 [] Tryz.f34)
def kk75:=kk74.f (s:=Zb) (snd kk74 [(2,.c 21 [.t 1 roI,.t 8 (roL .cell),.t 9 roI,.t 10 roI] [] [])] Tryz.f38)
def kk76:=kk75.f (s:=ahe) (snd kk75 [] Tryz.f68)
def kk77:=kk76.f (s:=ahl) (snd kk76 [(2,.c 42 [.t 0 roS,.t 3 roI] [] [])] Tryz.f146)
def kk78:=kk77.f (s:=LP) (snd kk77 [] Tryz.f191)
def kk79:=kk78.f (s:=Vk) (snd kk78 [] Tryz.f147)
def kk80:=kk79.f (s:=SK) (snd kk79 [] Tryz.f108)
def kk81:=kk80.f (s:=SS) (snd kk80 [(2,.c 23 [.t 0 roS,.t 3 roI] [] [])] Tryz.f136)
def kk82:=kk81.f (s:=SQ) (snd kk81 [] Tryz.f99)
def kk83:=kk82.f (s:=GX) (snd kk82 [(2,.c 29 [.b 1 0 (roL .cell),.t 6 (roL .cell),.t 7 roI,.t 8 roI] [(1,1)] [(1,1,0)])] Tryz.f67)
def kk84:=kk83.f (s:=abr) (snd kk83 [] Tryz.f100)
def kk85:=kk84.f (s:=aej) (snd kk84 [] Tryz.f101)
def kk86:=kk85.f (s:=ahq) (snd kk85 [] Tryz.f69)
def kk87:=kk86.f (s:=Zc) (snd kk86 [] Tryz.f35)
def kk88:=kk87.f YQ
def kk89:=kk88.f Gz
def kk90:=kk89.f (s:=SI) (snd kk89 [(2,.c 29 [.t 0 roS,.t 3 roI] [] [])] Tryz.f224)
def kk91:=kk90.f GH
def kk92:=kk91.f (s:=aed) (snd kk91 [(4,.c 152 [.t 0 roS,.t 1 roI,.b 4 0 roI,.b 4 1 roI,.b 4 2 roI,.b 4 3 roS,.t 7 roI] [(4,4)] [(4,4,0)]),(8,.c 152 [.t 0 roS,.t 1 roI,.b 4 0 roI,.b 4 1 roI,.b 4 2 roI,.b 4 3 roS,.t 7 roI] [(4,4)] [(4,4,0)])] Tryz.f169)
def kk93:=kk92.f (s:=abb) (snd kk92 [(5,.c 44 [.t 0 roS,.t 4 (owE .token 0),.t 5 roI] [] [])] Tryz.f137)
def kk94:=kk93.f (s:=YX) (snd kk93 [] Tryz.f170)
def kk95:=kk94.b (s:=U9) (bnd kk94 [] Tryz.f171)
def kk96:=kk95.b (s:=Vd) (bnd kk95 [] Tryz.f226)
def kk97:=kk96.b (s:=Vb) (bnd kk96 [] Tryz.f172)
def kk98:=kk97.f (s:=abp) (snd kk97 [] Tryz.f227)
def kk99:=kk98.b (s:=Va) (bnd kk98 [] Tryz.f173)
def aoK:=kk99.b (s:=Ou) (bnd kk99 [] Tryz.f175)
def Wu:=aoK.f (s:=abl) (snd aoK [] Tryz.f176)
theorem iF:∀n,gZ Tryz.prog (Dt n)/\gZ Tryz.prog (FH n)/\gZ Tryz.prog (wW n)/\gZ Tryz.prog (Dv n)/\gZ Tryz.prog (Bj n)
 | 0=>⟨(fun w S bb vs Et args x y h=>by cases h),(fun w S bb vs Et args x y h=>by cases h),(fun w S bb vs Et args x y h=>by cases h),(fun w S bb vs Et args x y h=>by cases h),(fun w S bb vs Et args x y h=>by cases h)⟩
 | n+1=>
  have ih:=iF n
  ⟨bnd (s:=Dt (n+1)) (((((Wu.b ih.1).b ih.2.1).b ih.2.2.1).b ih.2.2.2.1).b ih.2.2.2.2) [(28,.c 133 [.b 0 0 (roL .token),.b 0 1 roI,.b 0 2 roI,.b 2 0 roI,.b 2 1 roI,.b 2 2 roS,.b 2 3 (owE .expr 0),.b 6 0 roI,.b 6 1 roI,.b 6 2 roS,.b 6 3 (roL .expr),.t 115 (owE .int 1),.t 116 roI,.t 117 roI] [(0,3),(2,4),(6,4)] [(0,0,0),(2,2,0),(6,6,0)])] Tryz.f138,
  bnd (s:=FH (n+1)) (((((Wu.b ih.1).b ih.2.1).b ih.2.2.1).b ih.2.2.2.1).b ih.2.2.2.2) [(2,.c 25 [.b 0 0 (roL .token),.b 0 1 roI,.b 0 2 roI,.b 2 0 roI,.b 2 1 roI,.b 2 2 roS,.b 2 3 (owE .expr 0),.b 3 0 roI,.b 3 1 roI,.b 3 2 roS,.b 3 3 (roL .expr)] [(0,3),(2,4),(3,4)] [(0,0,0),(2,2,0),(3,3,0)])] Tryz.f174,
  bnd (s:=wW (n+1)) (((((Wu.b ih.1).b ih.2.1).b ih.2.2.1).b ih.2.2.2.1).b ih.2.2.2.2) [(2,.c 14 [.b 0 0 (roL .token),.b 0 1 roI,.b 0 2 roI,.b 2 0 roI,.b 2 1 roI,.b 2 2 roS,.b 2 3 (owE .expr 0),.b 3 0 roI,.b 3 1 roI,.b 3 2 roS,.b 3 3 (roL .expr)] [(0,3),(2,4),(3,4)] [(0,0,0),(2,2,0),(3,3,0)])] Tryz.f228,
  bnd (s:=Dv (n+1)) (((((Wu.b ih.1).b ih.2.1).b ih.2.2.1).b ih.2.2.2.1).b ih.2.2.2.2) [] Tryz.f255,
  bnd (s:=Bj (n+1)) (((((Wu.b ih.1).b ih.2.1).b ih.2.2.1).b ih.2.2.2.1).b ih.2.2.2.2) [(4,.c 27 [.b 0 0 (roL .token),.b 0 1 roI,.b 0 2 roI,.t 1 roS,.t 5 (.own (.base .expr) false true 0)] [(0,3)] [(0,0,0)])] Tryz.f275⟩
theorem Jo:gZ Tryz.prog Ve:=fun w S bb vs Et args x y h=>(iF (siz (α:=aV) x+1)).1 w S bb vs Et args x y h
def ap9:=Wu.b Jo
theorem Lr:gZ Tryz.prog YO:=fun w S bb vs Et args x y h=>(iF (siz (α:=aV) x+1)).2.1 w S bb vs Et args x y h
def ap8:=ap9.b Lr
theorem Dq:gZ Tryz.prog Ls:=fun w S bb vs Et args x y h=>(iF (siz (α:=aV) x+1)).2.2.1 w S bb vs Et args x y h
def ap7:=ap8.b Dq
theorem Jp:gZ Tryz.prog Vf:=fun w S bb vs Et args x y h=>(iF (siz (α:=aV) x+1)).2.2.2.1 w S bb vs Et args x y h
def ap6:=ap7.b Jp
theorem GR:gZ Tryz.prog SG:=fun w S bb vs Et args x y h=>(iF (siz (α:=aV) x.1+1)).2.2.2.2 w S bb vs Et args x y h
def aoJ:=ap6.b GR
theorem wX:∀n,Sound Tryz.prog (FK n)
 | 0=>(fun w S args x y h=>by cases h)
 | n+1=>
  have ih:=wX n
  snd (s:=FK (n+1)) (aoJ.f ih) [(3,.c 19 [.t 3 roI,.t 7 (roL .expr),.t 8 roI,.t 9 roI] [] [])] Tryz.f177
theorem LC:Sound Tryz.prog YU:=fun w S args x y h=>(wX (siz (α:=af) x+1)) w S args x y h
def aoI:=aoJ.f LC
theorem wY:∀n,Sound Tryz.prog (FM n)
 | 0=>(fun w S args x y h=>by cases h)
 | n+1=>
  have ih:=wY n
  snd (s:=FM (n+1)) (aoI.f ih) [(3,.c 20 [.t 3 roI,.t 7 (roL .expr),.t 8 roI,.t 9 roI] [] [])] Tryz.f178
theorem LD:Sound Tryz.prog YV:=fun w S args x y h=>(wY (siz (α:=af) x+1)) w S args x y h
def aoH:=aoI.f LD
def aoG:=aoH.f (s:=ahm) (snd aoH [] Tryz.f229)
theorem yZ:∀n,Sound Tryz.prog (JE n)
 | 0=>(fun w S args x y h=>by cases h)
 | n+1=>
  have ih:=yZ n
  snd (s:=JE (n+1)) (aoG.f ih) [(2,.c 18 [.b 1 0 roI,.b 1 1 roI,.b 1 2 roS,.b 1 3 (roL .expr),.t 6 (roL .expr),.t 7 roI,.t 8 roI] [(1,4)] [(1,1,0)])] Tryz.f179
theorem OD:Sound Tryz.prog abC:=fun w S args x y h=>(yZ (siz (α:=af) x+1)) w S args x y h
def aoF:=aoG.f OD
def aoE:=aoF.f (s:=SN) (snd aoF [] Tryz.f139)
def aoD:=aoE.f (s:=YR) (snd aoE [] Tryz.f102)
theorem DI:Sound Tryz.prog aer:=snd aoD [(2,.c 19 [.t 1 roS,.t 7 (roL .str),.t 8 roI,.t 9 roI] [] [])] Tryz.f103
def aoC:=aoD.f DI
theorem yN:Sound Tryz.prog YF:=snd (aoC.ins [qK] (by intro s a;simp only[List.mem_singleton]at a;subst a;exact⟨yJ,BB⟩)) [(3,.c 27 [.t 0 (roL .str),.t 3 (owE .str 0),.t 7 (roL .str),.t 8 roI,.t 9 roI] [] [])] Tryz.f142
def ap5:=aoC.f yN
end
end Go.Proofs.YtngjomkjlonfpaaGreatDoor
