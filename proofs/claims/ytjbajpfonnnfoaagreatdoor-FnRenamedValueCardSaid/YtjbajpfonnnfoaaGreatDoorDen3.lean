import Derived.Test.YtjbajpfonnnfoaaGreatDoorDen2
/- The functions compute their models, by gen.py. -/
namespace Go.Proofs.YtjbajpfonnnfoaaGreatDoor
open Go.Abs Go.Proofs
set_option maxRecDepth 100000
noncomputable def alV:=ajR.f (s:=QF) (snd ajR [(9,.c 60 (am4 4++am2 6 0 1 2++[.t 9 roI]++am2 10 8 9 11++[.t 37 (roL .row),.t 38 roI,.t 39 roI]) [(4,7),(6,7),(10,7)] [(4,4,0),(6,6,0),(10,10,0)])] Tryz.f168)
noncomputable def alU:=alV.f qA
