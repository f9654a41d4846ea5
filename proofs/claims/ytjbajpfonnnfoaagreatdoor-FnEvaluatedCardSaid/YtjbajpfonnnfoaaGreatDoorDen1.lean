import Derived.Test.YtjbajpfonnnfoaaGreatDoorSrtPk
/- The functions compute their models, by gen.py. -/
namespace Go.Proofs.YtjbajpfonnnfoaaGreatDoor
noncomputable section
open Go.Abs Go.Proofs
set_option maxRecDepth 100000
def kk29:=kk28.b (s:=Wn) (bnd (kk28.pk yK rM) [(4,.c 31 (alH 0++alI 2 0++alI 3 1++[.t 4 roI,.t 5 roI]) [(0,3),(2,4),(3,4)] [(0,0,0),(2,2,0),(3,3,0)])] Tryz.f152)
theorem yI:∀n,jv Tryz.prog (zx n)
 | 0=>(λw S bb vs Et args x y h=>by cases h)
 | n+1=>
  have ih:=yI n
  bnd (s:=zx (n+1)) ((kk29.b ih).pk yK rM) [] Tryz.f111
theorem MJ:jv Tryz.prog Y2:=.fuel zx (λn=>rfl) yI (λx=>siz (α:=aS) x.1+siz (α:=List Str) x.2.1+1) λx=>by kernel_rfl
def kk30:=kk29.b MJ
def kk31:=kk30.alV Y6 [] Tryz.f55
def kk32:=kk31.alV PY [] Tryz.f20
def kk33:=kk32.alV YS [(4,.c 39 (alH 0++alI 2 0++alI 3 1++[.t 4 roI,.t 5 roI]) [(0,3),(2,4),(3,4)] [(0,0,0),(2,2,0),(3,3,0)])] Tryz.f22
def kk34:=kk33.alV Ue [] Tryz.f63
def kk35:=kk34.alV Y8 [(13,.c 47 (alH 0++alI 2 0++alJ 3++[.t 4 roI]) [(0,3),(2,4),(3,4)] [(0,0,0),(2,2,0),(3,3,0)])] Tryz.f23
def kk36:=kk35.alT P7 [] Tryz.f35
def kk37:=kk36.alT LU [] Tryz.f67
def kk38:=kk37.alT TL [] Tryz.f86
def kk39:=kk38.alV adL [] Tryz.f112
def akg:=kk39.alV abK [] Tryz.f113
theorem lV:∀n,jv Tryz.prog (rH n)/\jv Tryz.prog (rE n)
 | 0=>⟨(λw S bb vs Et args x y h=>by cases h),(λw S bb vs Et args x y h=>by cases h)⟩
 | n+1=>
  have ih:=lV n
  ⟨bnd (s:=rH (n+1)) ((akg.b ih.1).b ih.2) [(4,.c 26 (alH 0++[.t 1 roI]++alK 4 0 1 2++alF 5 0 [roI,roI,roI,roS,(.own (.base .val) false true 3),(owE .str 6),(owE .row 7)]++[.t 6 roI,.t 7 roI]) [(0,3),(4,7),(5,7)] [(0,0,0),(4,4,0),(5,5,0)])] Tryz.f114,
  bnd (s:=rE (n+1)) ((akg.b ih.1).b ih.2) [] Tryz.f153⟩
theorem EL:jv Tryz.prog PS:=.fuel rH (λn=>rfl) (λn=>(lV n).1) (λx=>siz (α:=aS) x.1+9) λx=>by kernel_rfl
def kk41:=akg.b EL
theorem EK:jv Tryz.prog PO:=.fuel rE (λn=>rfl) (λn=>(lV n).2) (λx=>siz (α:=aS) x.1+9) λx=>by kernel_rfl
def kk42:=kk41.b EK
def kk43:=kk42.alV Ub [(4,.c 23 (alH 0++alK 2 0 1 4++alK 3 5 6 7++[.t 4 roI,.t 5 roI]) [(0,3),(2,7),(3,7)] [(0,0,0),(2,2,0),(3,3,0)])] Tryz.f115
def kk44:=kk43.alT LK [] Tryz.f116
def kk45:=kk44.alV abN [(5,.c 31 (alH 0++[.t 3 (owE .origin 0),.t 4 roI,.t 5 roI,.t 6 roI]) [(0,3)] [(0,0,0)])] Tryz.f154
theorem rG:jv Tryz.prog L8:=bnd (kk45.trs [17,27]) [(14,.c 58 (alH 0++alK 2 0 1 3++[.t 4 roI]++alK 5 4 6 7++[.t 6 roI,.t 7 roI]++alL 8 9 11++[.t 9 roI]) [(0,3),(2,7),(5,7),(8,2)] [(0,0,0),(2,2,0),(5,5,0),(8,8,0)]),(10,.c 58 (alH 0++alK 2 0 1 3++[.t 4 roI]++alK 5 4 6 7++[.t 6 roI,.t 7 roI]) [(0,3),(2,7),(5,7)] [(0,0,0),(2,2,0),(5,5,0)])] Tryz.f117
def kk46:=kk45.b rG
def kk47:=kk46.alV abO [] Tryz.f64
def kk48:=kk47.alT V6 [] Tryz.f42
def kk49:=kk48.alT Uc [] Tryz.f99
theorem yL:∀n,Sound Tryz.prog (zT n)
 | 0=>.alX
 | n+1=>
  have ih:=yL n
  snd (s:=zT (n+1)) (kk49.f ih) [(3,.c 22 (alM 1++[.t 3 roI,.t 4 roI]) [(1,7)] [(1,1,0)])] Tryz.f100
theorem MS:Sound Tryz.prog Zb:=.fuel zT (λn=>rfl) yL (λx=>siz (α:=af) x+1) λx=>by kernel_rfl
def kk50:=kk49.f MS
def kk51:=kk50.alT MW [(2,.c 18 [.t 0 (roL .str),.t 3 roI] [] [])] Tryz.f145
def kk52:=kk51.alT Ud [(2,.c 23 [.t 0 (roL .str),.t 3 roI] [] [])] Tryz.f101
def kk53:=kk52.alT V8 [] Tryz.f146
def kk54:=kk53.alT Mc [(2,.c 41 [.t 0 (roL .origin),.t 3 roI] [] [])] Tryz.f102
def akf:=kk54.alT YL [(10,.c 55 (alM 1++[.t 3 roI]++alN 4++[.t 5 roI]) [(1,7),(4,2)] [(1,1,0),(4,4,0)]),(4,.c 55 (alM 1++[.t 3 roI]) [(1,7)] [(1,1,0)])] Tryz.f45
theorem kF:∀n,Sound Tryz.prog (oh n)/\Sound Tryz.prog (Dn n)
 | 0=>⟨(λw S args x y h=>by cases h),(λw S args x y h=>by cases h)⟩
 | n+1=>
  have ih:=kF n
  ⟨snd (s:=oh (n+1)) ((akf.f ih.1).f ih.2) [(1000003,.c 95 (alM 1) [(1,7)] [(1,1,0)]),(1000005,.c 95 (alM 1) [(1,7)] [(1,1,0)])] Tryz.f14,
  snd (s:=Dn (n+1)) ((akf.f ih.1).f ih.2) [(2,.c 36 (alM 1++[.t 3 roI]) [(1,7)] [(1,1,0)])] Tryz.f44⟩
theorem Cb:Sound Tryz.prog JG:=.fuel oh (λn=>rfl) (λn=>(kF n).1) (λx=>siz (α:=af) x+1) λx=>by kernel_rfl
def kk56:=akf.f Cb
theorem PN:Sound Tryz.prog abM:=.fuel Dn (λn=>rfl) (λn=>(kF n).2) (λx=>siz (α:=af) x+1) λx=>by kernel_rfl
def kk57:=kk56.f PN
def kk58:=kk57.alT adK [] Tryz.f96
theorem zi:∀n,Sound Tryz.prog (Dp n)
 | 0=>.alX
 | n+1=>
  have ih:=zi n
  snd (s:=Dp (n+1)) (kk58.f ih) [(7,.c 56 (alM 1++alK 2 0 4 5++alK 3 6 7 8++[.t 5 roI]) [(1,7),(2,7),(3,7)] [(1,1,0),(2,2,0),(3,3,0)]),(3,.c 56 (alM 1++alK 2 0 4 5++alK 3 6 7 8++[.t 4 roI]) [(1,7),(2,7),(3,7)] [(1,1,0),(2,2,0),(3,3,0)])] Tryz.f38
theorem PU:Sound Tryz.prog abP:=.fuel Dp (λn=>rfl) zi (λx=>siz (α:=af) x+1) λx=>by kernel_rfl
def kk59:=kk58.f PU
theorem rC:Sound Tryz.prog LP:=snd kk59 [(5,.c 39 ([.t 0 roI]++alK 4 0 1 2++alK 5 6 7 8++[.t 6 roI]) [(4,7),(5,7)] [(4,4,0),(5,5,0)])] Tryz.f118
def kk60:=kk59.f rC
end
end Go.Proofs.YtjbajpfonnnfoaaGreatDoor
