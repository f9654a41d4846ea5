import Derived.Test.YtjbajpfonnnfoaaGreatDoorDen2
/- The functions compute their models, by gen.py. -/
namespace Go.Proofs.YtjbajpfonnnfoaaGreatDoor
open Go.Abs Go.Proofs
set_option maxRecDepth 100000
noncomputable def ak2:=ai6.f (s:=Qu) (snd ai6 [(9,.c 60 [.b 4 0 roI,.b 4 1 roI,.b 4 2 roI,.b 4 3 roS,.b 4 4 (roL .val),.b 4 5 (roL .str),.b 4 6 (roL .row),.b 6 0 roI,.b 6 1 roI,.b 6 2 roI,.b 6 3 roS,.b 6 4 (owE .val 0),.b 6 5 (owE .str 1),.b 6 6 (owE .row 2),.t 9 roI,.b 10 0 roI,.b 10 1 roI,.b 10 2 roI,.b 10 3 roS,.b 10 4 (owE .val 8),.b 10 5 (owE .str 9),.b 10 6 (owE .row 11),.t 37 (roL .row),.t 38 roI,.t 39 roI] [(4,7),(6,7),(10,7)] [(4,4,0),(6,6,0),(10,10,0)])] Tryz.f168)
noncomputable def ak1:=ak2.f qG
