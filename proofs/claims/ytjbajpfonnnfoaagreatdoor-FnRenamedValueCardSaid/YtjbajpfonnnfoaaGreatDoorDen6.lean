import Derived.Test.YtjbajpfonnnfoaaGreatDoorSrtWalk
/- The functions compute their models, by gen.py. -/
namespace Go.Proofs.YtjbajpfonnnfoaaGreatDoor
noncomputable section
open Go.Abs Go.Proofs
set_option maxRecDepth 100000
def aiH:=alN.f Gq
theorem wY:∀n,Sound Tryz.prog (yK n)
 | 0=>.ang
 | n+1=>
  have ih:=wY n
  snd (s:=yK (n+1)) (aiH.f ih) [(3,.c 29 (am0 2 0++am0 3 4++[.t 14 (roL .expr),.t 15 roI,.t 16 roI]) [(2,4),(3,4)] [(2,2,0),(3,3,0)])] Tryz.f110
theorem J8:Sound Tryz.prog XT:=.fuel yK (λn=>rfl) wY (λx=>siz (α:=ak) x+1) λx=>by kernel_rfl
def aiG:=aiH.f J8
theorem y8:∀n,Sound Tryz.prog (AU n)
 | 0=>.ang
 | n+1=>
  have ih:=y8 n
  snd (s:=AU (n+1)) (aiG.f ih) [(1000004,.c 74 ([.t 1 roS,.t 2 roS]++amY 3++am0 6 0++am0 7 1) [(3,4),(6,4),(7,4)] [(3,3,0),(6,6,0),(7,7,0)]),(1000005,.c 74 ([.t 1 roS,.t 2 roS]++amY 3++am0 6 0++am0 7 1++[.t 8 (roE .bool)]) [(3,4),(6,4),(7,4)] [(3,3,0),(6,6,0),(7,7,0)]),(1000009,.c 74 ([.t 1 roS,.t 2 roS]++am0 6 0++am0 7 1++[.t 8 (roE .bool)]++amY 10++[.t 44 (roL .expr),.t 45 roI,.t 46 roI,.t 55 (roE .bool)]) [(6,4),(7,4),(10,4)] [(6,6,0),(7,7,0),(10,10,0)]),(6,.c 74 ([.t 1 roS,.t 2 roS]++am0 6 0++am0 7 1++[.t 8 (roE .bool),.t 44 (roL .expr),.t 45 roI,.t 46 roI]) [(6,4),(7,4)] [(6,6,0),(7,7,0)])] Tryz.f53
theorem OD:Sound Tryz.prog aac:=.fuel AU (λn=>rfl) y8 (λx=>siz (α:=ak) x.1+1) λx=>by kernel_rfl
def aiF:=aiG.f OD
def aiE:=aiF.anb QJ [] Tryz.f17
theorem um:∀n,Sound Tryz.prog (uY n)
 | 0=>.ang
 | n+1=>
  have ih:=um n
  snd (s:=uY (n+1)) (aiE.f ih) [(4,.c 66 ([.t 1 roS,.t 2 roS,.t 3 (roL .str)]++amY 4++[.t 9 roI]) [(4,4)] [(4,4,0)])] Tryz.f54
theorem Ib:Sound Tryz.prog UA:=.fuel uY (λn=>rfl) um (λx=>siz (α:=ak) x.1+siz (α:=List Str) x.2.2.2+1) λx=>by kernel_rfl
def aiD:=aiE.f Ib
def alM:=aiD.anb Qn [] Tryz.f18
theorem Bq:Sound Tryz.prog Jj:=snd alM [(9,.c 73 (amY 3++[.t 4 (roL .binding),.t 5 (roL .read)]++amX 6 0 [roI,roI,(roL .file)]++[.t 7 roI,.t 8 roI]++am0 9 0++[.t 11 (.own (.base .binding) false true 1),.t 12 roI]) [(3,4),(6,3),(9,4)] [(3,3,0),(6,6,0),(9,9,0)])] Tryz.f5
end
end Go.Proofs.YtjbajpfonnnfoaaGreatDoor
