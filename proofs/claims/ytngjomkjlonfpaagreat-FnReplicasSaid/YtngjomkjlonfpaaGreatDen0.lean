import Derived.Test.YtngjomkjlonfpaaGreatMk
/- The functions compute their models, by gen.py. -/
namespace Go.Proofs.YtngjomkjlonfpaaGreat
noncomputable section
open Go.Abs Go.Proofs
set_option maxRecDepth 100000
def kk1:=kk0.f (s:=amG) (snd kk0 [] Tryz.f4)
def kk2:=kk1.n (s:=agi) (nnd kk1 [(3,.c 32 [.t 0 (roL .u8),.t 3 roI,.t 4 roI] [] [])] Tryz.f15)
def kk3:=kk2.f (s:=Yi) (snd kk2 [(2,.c 31 [.t 0 (roL .op),.b 3 0 roI,.b 3 1 roI,.b 3 2 roI,.b 3 3 (roL .int),.b 3 4 roI,.b 3 5 roI,.b 3 6 roI,.b 3 7 roI,.b 3 8 roI,.b 3 9 roS,.b 3 10 roS,.b 3 11 roI,.b 3 12 roS,.b 3 13 roS,.b 3 14 roI,.b 3 15 roI,.b 3 16 (roL .read),.t 5 roI] [(3,17)] [(3,3,0)])] Tryz.f35)
def kk4:=kk3.f (s:=Yb) (snd kk3 [] Tryz.f44)
def kk5:=kk4.f (s:=agf) (snd kk4 [] Tryz.f154)
theorem BZ:∀n,Sound Tryz.prog (O7 n)
 | 0=>(fun w S args x y h=>by cases h)
 | n+1=>
  have ih:=BZ n
  snd (s:=O7 (n+1)) (kk5.f ih) [(7,.c 56 [.b 1 0 roI,.b 1 1 roI,.b 1 2 roI,.b 1 3 roS,.b 1 4 (roL .val),.b 1 5 (roL .str),.b 1 6 (roL .row),.b 2 0 roI,.b 2 1 roI,.b 2 2 roI,.b 2 3 roS,.b 2 4 (owE .val 0),.b 2 5 (owE .str 4),.b 2 6 (owE .row 5),.b 3 0 roI,.b 3 1 roI,.b 3 2 roI,.b 3 3 roS,.b 3 4 (owE .val 6),.b 3 5 (owE .str 7),.b 3 6 (owE .row 8),.t 5 roI] [(1,7),(2,7),(3,7)] [(1,1,0),(2,2,0),(3,3,0)]),(3,.c 56 [.b 1 0 roI,.b 1 1 roI,.b 1 2 roI,.b 1 3 roS,.b 1 4 (roL .val),.b 1 5 (roL .str),.b 1 6 (roL .row),.b 2 0 roI,.b 2 1 roI,.b 2 2 roI,.b 2 3 roS,.b 2 4 (owE .val 0),.b 2 5 (owE .str 4),.b 2 6 (owE .row 5),.b 3 0 roI,.b 3 1 roI,.b 3 2 roI,.b 3 3 roS,.b 3 4 (owE .val 6),.b 3 5 (owE .str 7),.b 3 6 (owE .row 8),.t 4 roI] [(1,7),(2,7),(3,7)] [(1,1,0),(2,2,0),(3,3,0)])] Tryz.f126
theorem SK:Sound Tryz.prog aex:=fun w S args x y h=>(BZ (siz (α:=aS) x+1)) w S args x y h
def kk6:=kk5.f SK
def kk7:=kk6.f (s:=abg) (snd kk6 [] Tryz.f105)
def kk8:=kk7.f (s:=Yu) (snd kk7 [(3,.c 21 [.t 0 (roL .read),.t 3 (owE .read 0),.t 4 roI] [] [])] Tryz.f72)
def kk9:=kk8.f (s:=aaX) (snd kk8 [] Tryz.f45)
def kk10:=kk9.f (s:=Yd) (snd (kk9.cuts [(10,5,8,64,62)]) [(8,.c 65 [.t 5 (owE .op 0),.t 6 (.own (.base .op) false true 1),.t 7 roI,.t 8 roI] [] []),(4,.c 65 [.t 5 (owE .op 0),.t 6 (.own (.base .op) false true 1),.t 7 roI] [] [])] Tryz.f20)
def kk11:=kk10.f (s:=aiQ) (snd kk10 [] Tryz.f46)
def kk12:=kk11.f (s:=aaT) (snd kk11 [(2,.c 19 [.t 0 (roL .int),.t 3 roI] [] [])] Tryz.f87)
def kk13:=kk12.f (s:=Wu) (snd kk12 [] Tryz.f56)
def kk14:=kk13.f (s:=Td) (snd kk13 [(2,.c 36 [.t 0 (roL .op),.t 3 roI] [] [])] Tryz.f33)
def kk15:=kk14.f (s:=Ii) (snd kk14 [] Tryz.f21)
def kk16:=kk15.f (s:=aes) (snd kk15 [(3,.c 21 [.t 0 (roL .op),.t 3 (owE .op 0),.t 4 roI] [] [])] Tryz.f47)
def kk17:=kk16.f (s:=aaP) (snd kk16 [] Tryz.f22)
def kk18:=kk17.f (s:=aiP) (snd kk17 [] Tryz.f7)
def kk19:=kk18.b (s:=aeF) (bnd kk18 [] Tryz.f65)
def kk20:=kk19.b (s:=aa7) (bnd kk19 [] Tryz.f38)
def kk21:=kk20.b (s:=aeC) (bnd kk20 [] Tryz.f17)
def kk22:=kk21.f (s:=SC) (snd kk21 [] Tryz.f37)
def kk23:=kk22.f (s:=agk) (snd kk22 [] Tryz.f100)
def kk24:=kk23.f (s:=Ye) (snd kk23 [(3,.c 19 [.t 0 (roL .op),.t 3 roI,.t 4 roI] [] [])] Tryz.f66)
def kk25:=kk24.f (s:=abG) (snd kk24 [(3,.c 23 [.t 0 (roL .op),.t 1 roI,.t 5 roI,.t 6 roI] [] [])] Tryz.f57)
def kk26:=kk25.f (s:=aem) (snd kk25 [(3,.c 18 [.b 1 0 roI,.b 1 1 (roL .op),.t 3 (owE .int 0),.t 4 roI] [(1,2)] [(1,1,0)])] Tryz.f67)
def kk27:=kk26.f (s:=agy) (snd kk26 [] Tryz.f39)
def kk28:=kk27.b (s:=Wj) (bnd kk27 [] Tryz.f41)
def kk29:=kk28.b (s:=aeB) (bnd kk28 [] Tryz.f69)
theorem Bc:∀n,Sound Tryz.prog (Me n)
 | 0=>(fun w S args x y h=>by cases h)
 | n+1=>
  have ih:=Bc n
  snd (s:=Me (n+1)) (kk29.f ih) [(3,.c 27 [.t 1 roI,.b 2 0 roI,.b 2 1 roI,.b 2 2 roS,.b 2 3 (roL .expr),.t 5 roI] [(2,4)] [(2,2,0)])] Tryz.f160
theorem PE:Sound Tryz.prog aby:=fun w S args x y h=>(Bc (siz (α:=af) x.1+1)) w S args x y h
def kk30:=kk29.f PE
theorem wF:∀n,Sound Tryz.prog (EU n)
 | 0=>(fun w S args x y h=>by cases h)
 | n+1=>
  have ih:=wF n
  snd (s:=EU (n+1)) (kk30.f ih) [(3,.c 22 [.b 1 0 roI,.b 1 1 roI,.b 1 2 roS,.b 1 3 (roL .expr),.t 3 roI,.t 4 roI] [(1,4)] [(1,1,0)])] Tryz.f161
theorem JU:Sound Tryz.prog V5:=fun w S args x y h=>(wF (siz (α:=af) x+1)) w S args x y h
def kk31:=kk30.f JU
def kk32:=kk31.f (s:=aa2) (snd kk31 [(2,.c 45 [.t 0 roS,.t 3 roI] [] [])] Tryz.f139)
def kk33:=kk32.f (s:=agl) (snd kk32 [(2,.c 18 [.t 0 (roL .str),.t 1 roS,.t 5 roI] [] [])] Tryz.f111)
def kk34:=kk33.f (s:=SN) (snd kk33 [] Tryz.f169)
def kk35:=kk34.f (s:=Tf) (snd kk34 [] Tryz.f140)
def kk36:=kk35.f (s:=PL) (snd kk35 [] Tryz.f116)
def kk37:=kk36.f (s:=PK) (snd kk36 [(2,.c 29 [.t 0 roS,.t 3 roI] [] [])] Tryz.f178)
def kk38:=kk37.f (s:=J9) (snd kk37 [] Tryz.f190)
def kk39:=kk38.f (s:=abu) (snd kk38 [] Tryz.f183)
theorem CS:∀n,Sound Tryz.prog (PI n)
 | 0=>(fun w S args x y h=>by cases h)
 | n+1=>
  have ih:=CS n
  snd (s:=PI (n+1)) (kk39.f ih) [(2,.c 20 [.b 1 0 roI,.b 1 1 roI,.b 1 2 roS,.b 1 3 (roL .expr),.t 3 roI] [(1,4)] [(1,1,0)])] Tryz.f162
theorem S9:Sound Tryz.prog aeK:=fun w S args x y h=>(CS (siz (α:=af) x+1)) w S args x y h
def kk40:=kk39.f S9
def kk41:=kk40.f (s:=PN) (snd kk40 [] Tryz.f133)
def kk42:=kk41.f (s:=Wy) (snd kk41 [(5,.c 31 [.t 0 roI,.t 3 (roE .bool),.t 4 roS] [] [])] Tryz.f124)
def kk43:=kk42.f (s:=aiT) (snd kk42 [(3,.c 27 [.t 0 (roL .str),.t 1 roS,.t 5 (owE .u8 0),.t 6 roI] [] [])] Tryz.f144)
def kk44:=kk43.f (s:=aaN) (snd kk43 [] Tryz.f166)
def aju:=kk44.f (s:=Ya) (snd kk44 [] Tryz.f168)
theorem nT:∀n,Sound Tryz.prog (LZ n)/\Sound Tryz.prog (L6 n)/\Sound Tryz.prog (UE n)
 | 0=>⟨(fun w S args x y h=>by cases h),(fun w S args x y h=>by cases h),(fun w S args x y h=>by cases h)⟩
 | n+1=>
  have ih:=nT n
  ⟨snd (s:=LZ (n+1)) (((aju.f ih.1).f ih.2.1).f ih.2.2) [] Tryz.f138,
  snd (s:=L6 (n+1)) (((aju.f ih.1).f ih.2.1).f ih.2.2) [(3,.c 22 [.t 0 (roL .expr),.t 3 (owE .str 0),.t 4 roI] [] [])] Tryz.f165,
  snd (s:=UE (n+1)) (((aju.f ih.1).f ih.2.1).f ih.2.2) [] Tryz.f167⟩
theorem Pj:Sound Tryz.prog abk:=fun w S args x y h=>(nT (siz (α:=af) x+1)).1 w S args x y h
def kk46:=aju.f Pj
theorem Pm:Sound Tryz.prog abl:=fun w S args x y h=>(nT (siz (α:=List af) x+1)).2.1 w S args x y h
def kk47:=kk46.f Pm
theorem Wq:Sound Tryz.prog agn:=fun w S args x y h=>(nT (siz (α:=af) x.1+1)).2.2 w S args x y h
def kk48:=kk47.f Wq
def kk49:=kk48.f (s:=Tj) (snd kk48 [] Tryz.f114)
def kk50:=kk49.f (s:=aeJ) (snd kk49 [] Tryz.f151)
def kk51:=kk50.f (s:=abv) (snd kk50 [] Tryz.f174)
def kk52:=kk51.b (s:=abz) (bnd kk51 [] Tryz.f146)
def kk53:=kk52.s (s:=agr) (ssd kk52 [] Tryz.f147)
def kk54:=kk53.b (s:=abx) (bnd kk53 [(4,.c 34 [.b 0 0 (roL .u8),.b 0 1 roI,.b 0 2 roI,.t 1 (roL .str),.b 4 0 roI,.b 4 1 roI,.b 4 2 roS,.b 4 3 (owE .expr 0),.b 5 0 roI,.b 5 1 roI,.b 5 2 roS,.b 5 3 (.own (.base .expr) false true 1),.t 6 roI,.t 7 roI] [(0,3),(4,4),(5,4)] [(0,0,0),(4,4,0),(5,5,0)])] Tryz.f148)
def kk55:=kk54.f (s:=abB) (snd kk54 [] Tryz.f149)
def kk56:=kk55.b (s:=SQ) (bnd kk55 [] Tryz.f150)
def kk57:=kk56.b (s:=Ws) (bnd kk56 [] Tryz.f152)
def kk58:=kk57.b (s:=Yx) (bnd kk57 [(4,.c 31 [.b 0 0 (roL .u8),.b 0 1 roI,.b 0 2 roI,.b 2 0 roI,.b 2 1 roI,.b 2 2 roS,.b 2 3 (owE .expr 0),.b 3 0 roI,.b 3 1 roI,.b 3 2 roS,.b 3 3 (owE .expr 1),.t 4 roI,.t 5 roI] [(0,3),(2,4),(3,4)] [(0,0,0),(2,2,0),(3,3,0)])] Tryz.f153)
theorem Ba:∀n,kT Tryz.prog (Md n)
 | 0=>(fun w S bb vs Et args x y h=>by cases h)
 | n+1=>
  have ih:=Ba n
  bnd (s:=Md (n+1)) (kk58.b ih) [] Tryz.f125
theorem Pz:kT Tryz.prog abw:=fun w S bb vs Et args x y h=>(Ba (siz (α:=bC) x.1+siz (α:=List Str) x.2.1+1)) w S bb vs Et args x y h
def kk59:=kk58.b Pz
def kk60:=kk59.b (s:=aa8) (bnd kk59 [] Tryz.f102)
def kk61:=kk60.f (s:=VS) (snd kk60 [(4,.c 36 [.t 0 roS,.t 1 (roE .u8),.t 5 (owE .str 0),.t 6 roI,.t 7 roI] [] [])] Tryz.f143)
def kk62:=kk61.b (s:=Yq) (bnd kk61 [] Tryz.f145)
end
end Go.Proofs.YtngjomkjlonfpaaGreat
