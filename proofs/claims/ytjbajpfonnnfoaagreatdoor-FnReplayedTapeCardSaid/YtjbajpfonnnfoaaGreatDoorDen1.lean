import Derived.Test.YtjbajpfonnnfoaaGreatDoorSrtPk
/- The functions compute their models, by gen.py. -/
namespace Go.Proofs.YtjbajpfonnnfoaaGreatDoor
noncomputable section
open Go.Abs Go.Proofs
set_option maxRecDepth 100000
def kk29:=kk28.b (s:=Wh) (bnd (kk28.pk yM rP) [(4,.c 31 [.b 0 0 (roL .u8),.b 0 1 roI,.b 0 2 roI,.b 2 0 roI,.b 2 1 roI,.b 2 2 roS,.b 2 3 (owE .expr 0),.b 3 0 roI,.b 3 1 roI,.b 3 2 roS,.b 3 3 (owE .expr 1),.t 4 roI,.t 5 roI] [(0,3),(2,4),(3,4)] [(0,0,0),(2,2,0),(3,3,0)])] Tryz.f152)
theorem yK:∀n,jw Tryz.prog (zM n)
 | 0=>(fun w S bb vs Et args x y h=>by cases h)
 | n+1=>
  have ih:=yK n
  bnd (s:=zM (n+1)) ((kk29.b ih).pk yM rP) [] Tryz.f111
theorem MI:jw Tryz.prog YV:=.fuel zM (fun n=>rfl) yK (fun x=>siz (α:=aS) x.1+siz (α:=List Str) x.2.1+1) fun x=>by kernel_rfl
def kk30:=kk29.b MI
def kk31:=kk30.b (s:=Y0) (bnd kk30 [] Tryz.f55)
def kk32:=kk31.b (s:=P6) (bnd kk31 [] Tryz.f20)
def kk33:=kk32.b (s:=YN) (bnd kk32 [(4,.c 39 [.b 0 0 (roL .u8),.b 0 1 roI,.b 0 2 roI,.b 2 0 roI,.b 2 1 roI,.b 2 2 roS,.b 2 3 (owE .expr 0),.b 3 0 roI,.b 3 1 roI,.b 3 2 roS,.b 3 3 (owE .expr 1),.t 4 roI,.t 5 roI] [(0,3),(2,4),(3,4)] [(0,0,0),(2,2,0),(3,3,0)])] Tryz.f22)
def kk34:=kk33.b (s:=Ub) (bnd kk33 [] Tryz.f63)
def kk35:=kk34.b (s:=Y2) (bnd kk34 [(13,.c 47 [.b 0 0 (roL .u8),.b 0 1 roI,.b 0 2 roI,.b 2 0 roI,.b 2 1 roI,.b 2 2 roS,.b 2 3 (owE .expr 0),.b 3 0 roI,.b 3 1 roI,.b 3 2 roS,.b 3 3 (.own (.base .expr) false true 1),.t 4 roI] [(0,3),(2,4),(3,4)] [(0,0,0),(2,2,0),(3,3,0)])] Tryz.f23)
def kk36:=kk35.f (s:=Qa) (snd kk35 [] Tryz.f35)
def kk37:=kk36.f (s:=LU) (snd kk36 [] Tryz.f67)
def kk38:=kk37.f (s:=TK) (snd kk37 [] Tryz.f86)
def kk39:=kk38.b (s:=adI) (bnd kk38 [] Tryz.f112)
def aj8:=kk39.b (s:=abD) (bnd kk39 [] Tryz.f113)
theorem lZ:∀n,jw Tryz.prog (rM n)/\jw Tryz.prog (rG n)
 | 0=>⟨(fun w S bb vs Et args x y h=>by cases h),(fun w S bb vs Et args x y h=>by cases h)⟩
 | n+1=>
  have ih:=lZ n
  ⟨bnd (s:=rM (n+1)) ((aj8.b ih.1).b ih.2) [(4,.c 26 [.b 0 0 (roL .u8),.b 0 1 roI,.b 0 2 roI,.t 1 roI,.b 4 0 roI,.b 4 1 roI,.b 4 2 roI,.b 4 3 roS,.b 4 4 (owE .val 0),.b 4 5 (owE .str 1),.b 4 6 (owE .row 2),.b 5 0 roI,.b 5 1 roI,.b 5 2 roI,.b 5 3 roS,.b 5 4 (.own (.base .val) false true 3),.b 5 5 (owE .str 6),.b 5 6 (owE .row 7),.t 6 roI,.t 7 roI] [(0,3),(4,7),(5,7)] [(0,0,0),(4,4,0),(5,5,0)])] Tryz.f114,
  bnd (s:=rG (n+1)) ((aj8.b ih.1).b ih.2) [] Tryz.f153⟩
theorem EP:jw Tryz.prog PW:=.fuel rM (fun n=>rfl) (fun n=>(lZ n).1) (fun x=>siz (α:=aS) x.1+9) fun x=>by kernel_rfl
def kk41:=aj8.b EP
theorem EO:jw Tryz.prog PV:=.fuel rG (fun n=>rfl) (fun n=>(lZ n).2) (fun x=>siz (α:=aS) x.1+9) fun x=>by kernel_rfl
def kk42:=kk41.b EO
def kk43:=kk42.b (s:=TW) (bnd kk42 [(4,.c 23 [.b 0 0 (roL .u8),.b 0 1 roI,.b 0 2 roI,.b 2 0 roI,.b 2 1 roI,.b 2 2 roI,.b 2 3 roS,.b 2 4 (owE .val 0),.b 2 5 (owE .str 1),.b 2 6 (owE .row 4),.b 3 0 roI,.b 3 1 roI,.b 3 2 roI,.b 3 3 roS,.b 3 4 (owE .val 5),.b 3 5 (owE .str 6),.b 3 6 (owE .row 7),.t 4 roI,.t 5 roI] [(0,3),(2,7),(3,7)] [(0,0,0),(2,2,0),(3,3,0)])] Tryz.f115)
def kk44:=kk43.f (s:=LP) (snd kk43 [] Tryz.f116)
def kk45:=kk44.b (s:=abH) (bnd kk44 [(5,.c 31 [.b 0 0 (roL .u8),.b 0 1 roI,.b 0 2 roI,.t 3 (owE .origin 0),.t 4 roI,.t 5 roI,.t 6 roI] [(0,3)] [(0,0,0)])] Tryz.f154)
theorem rJ:jw Tryz.prog L8:=bnd (kk45.trs [17,27]) [(14,.c 58 [.b 0 0 (roL .u8),.b 0 1 roI,.b 0 2 roI,.b 2 0 roI,.b 2 1 roI,.b 2 2 roI,.b 2 3 roS,.b 2 4 (owE .val 0),.b 2 5 (owE .str 1),.b 2 6 (owE .row 3),.t 4 roI,.b 5 0 roI,.b 5 1 roI,.b 5 2 roI,.b 5 3 roS,.b 5 4 (owE .val 4),.b 5 5 (owE .str 6),.b 5 6 (owE .row 7),.t 6 roI,.t 7 roI,.b 8 0 (owE .int 9),.b 8 1 (owE .origin 11),.t 9 roI] [(0,3),(2,7),(5,7),(8,2)] [(0,0,0),(2,2,0),(5,5,0),(8,8,0)]),(10,.c 58 [.b 0 0 (roL .u8),.b 0 1 roI,.b 0 2 roI,.b 2 0 roI,.b 2 1 roI,.b 2 2 roI,.b 2 3 roS,.b 2 4 (owE .val 0),.b 2 5 (owE .str 1),.b 2 6 (owE .row 3),.t 4 roI,.b 5 0 roI,.b 5 1 roI,.b 5 2 roI,.b 5 3 roS,.b 5 4 (owE .val 4),.b 5 5 (owE .str 6),.b 5 6 (owE .row 7),.t 6 roI,.t 7 roI] [(0,3),(2,7),(5,7)] [(0,0,0),(2,2,0),(5,5,0)])] Tryz.f117
def kk46:=kk45.b rJ
def kk47:=kk46.b (s:=abI) (bnd kk46 [] Tryz.f64)
def kk48:=kk47.f (s:=VZ) (snd kk47 [] Tryz.f42)
def kk49:=kk48.f (s:=TY) (snd kk48 [] Tryz.f99)
theorem yN:∀n,Sound Tryz.prog (zX n)
 | 0=>(fun w S args x y h=>by cases h)
 | n+1=>
  have ih:=yN n
  snd (s:=zX (n+1)) (kk49.f ih) [(3,.c 22 [.b 1 0 roI,.b 1 1 roI,.b 1 2 roI,.b 1 3 roS,.b 1 4 (roL .val),.b 1 5 (roL .str),.b 1 6 (roL .row),.t 3 roI,.t 4 roI] [(1,7)] [(1,1,0)])] Tryz.f100
theorem MR:Sound Tryz.prog Y5:=.fuel zX (fun n=>rfl) yN (fun x=>siz (α:=af) x+1) fun x=>by kernel_rfl
def kk50:=kk49.f MR
def kk51:=kk50.f (s:=MV) (snd kk50 [(2,.c 18 [.t 0 (roL .str),.t 3 roI] [] [])] Tryz.f145)
def kk52:=kk51.f (s:=Ua) (snd kk51 [(2,.c 23 [.t 0 (roL .str),.t 3 roI] [] [])] Tryz.f101)
def kk53:=kk52.f (s:=V4) (snd kk52 [] Tryz.f146)
def kk54:=kk53.f (s:=Mc) (snd kk53 [(2,.c 41 [.t 0 (roL .origin),.t 3 roI] [] [])] Tryz.f102)
def aj7:=kk54.f (s:=YG) (snd kk54 [(10,.c 55 [.b 1 0 roI,.b 1 1 roI,.b 1 2 roI,.b 1 3 roS,.b 1 4 (roL .val),.b 1 5 (roL .str),.b 1 6 (roL .row),.t 3 roI,.b 4 0 (roL .int),.b 4 1 (roL .origin),.t 5 roI] [(1,7),(4,2)] [(1,1,0),(4,4,0)]),(4,.c 55 [.b 1 0 roI,.b 1 1 roI,.b 1 2 roI,.b 1 3 roS,.b 1 4 (roL .val),.b 1 5 (roL .str),.b 1 6 (roL .row),.t 3 roI] [(1,7)] [(1,1,0)])] Tryz.f45)
theorem kJ:∀n,Sound Tryz.prog (oq n)/\Sound Tryz.prog (Dv n)
 | 0=>⟨(fun w S args x y h=>by cases h),(fun w S args x y h=>by cases h)⟩
 | n+1=>
  have ih:=kJ n
  ⟨snd (s:=oq (n+1)) ((aj7.f ih.1).f ih.2) [(1000003,.c 95 [.b 1 0 roI,.b 1 1 roI,.b 1 2 roI,.b 1 3 roS,.b 1 4 (roL .val),.b 1 5 (roL .str),.b 1 6 (roL .row)] [(1,7)] [(1,1,0)]),(1000005,.c 95 [.b 1 0 roI,.b 1 1 roI,.b 1 2 roI,.b 1 3 roS,.b 1 4 (roL .val),.b 1 5 (roL .str),.b 1 6 (roL .row)] [(1,7)] [(1,1,0)])] Tryz.f14,
  snd (s:=Dv (n+1)) ((aj7.f ih.1).f ih.2) [(2,.c 36 [.b 1 0 roI,.b 1 1 roI,.b 1 2 roI,.b 1 3 roS,.b 1 4 (roL .val),.b 1 5 (roL .str),.b 1 6 (roL .row),.t 3 roI] [(1,7)] [(1,1,0)])] Tryz.f44⟩
theorem Cf:Sound Tryz.prog JI:=.fuel oq (fun n=>rfl) (fun n=>(kJ n).1) (fun x=>siz (α:=af) x+1) fun x=>by kernel_rfl
def kk56:=aj7.f Cf
theorem PU:Sound Tryz.prog abG:=.fuel Dv (fun n=>rfl) (fun n=>(kJ n).2) (fun x=>siz (α:=af) x+1) fun x=>by kernel_rfl
def kk57:=kk56.f PU
def kk58:=kk57.f (s:=adH) (snd kk57 [] Tryz.f96)
theorem zq:∀n,Sound Tryz.prog (Dw n)
 | 0=>(fun w S args x y h=>by cases h)
 | n+1=>
  have ih:=zq n
  snd (s:=Dw (n+1)) (kk58.f ih) [(7,.c 56 [.b 1 0 roI,.b 1 1 roI,.b 1 2 roI,.b 1 3 roS,.b 1 4 (roL .val),.b 1 5 (roL .str),.b 1 6 (roL .row),.b 2 0 roI,.b 2 1 roI,.b 2 2 roI,.b 2 3 roS,.b 2 4 (owE .val 0),.b 2 5 (owE .str 4),.b 2 6 (owE .row 5),.b 3 0 roI,.b 3 1 roI,.b 3 2 roI,.b 3 3 roS,.b 3 4 (owE .val 6),.b 3 5 (owE .str 7),.b 3 6 (owE .row 8),.t 5 roI] [(1,7),(2,7),(3,7)] [(1,1,0),(2,2,0),(3,3,0)]),(3,.c 56 [.b 1 0 roI,.b 1 1 roI,.b 1 2 roI,.b 1 3 roS,.b 1 4 (roL .val),.b 1 5 (roL .str),.b 1 6 (roL .row),.b 2 0 roI,.b 2 1 roI,.b 2 2 roI,.b 2 3 roS,.b 2 4 (owE .val 0),.b 2 5 (owE .str 4),.b 2 6 (owE .row 5),.b 3 0 roI,.b 3 1 roI,.b 3 2 roI,.b 3 3 roS,.b 3 4 (owE .val 6),.b 3 5 (owE .str 7),.b 3 6 (owE .row 8),.t 4 roI] [(1,7),(2,7),(3,7)] [(1,1,0),(2,2,0),(3,3,0)])] Tryz.f38
theorem PX:Sound Tryz.prog abJ:=.fuel Dw (fun n=>rfl) zq (fun x=>siz (α:=af) x+1) fun x=>by kernel_rfl
def kk59:=kk58.f PX
theorem rE:Sound Tryz.prog LQ:=snd kk59 [(5,.c 39 [.t 0 roI,.b 4 0 roI,.b 4 1 roI,.b 4 2 roI,.b 4 3 roS,.b 4 4 (owE .val 0),.b 4 5 (owE .str 1),.b 4 6 (owE .row 2),.b 5 0 roI,.b 5 1 roI,.b 5 2 roI,.b 5 3 roS,.b 5 4 (owE .val 6),.b 5 5 (owE .str 7),.b 5 6 (owE .row 8),.t 6 roI] [(4,7),(5,7)] [(4,4,0),(5,5,0)])] Tryz.f118
def kk60:=kk59.f rE
end
end Go.Proofs.YtjbajpfonnnfoaaGreatDoor
