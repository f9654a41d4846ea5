import Derived.Test.YtjbajpfonnnfoaaGreatDoorSrtPk
/- The functions compute their models, by gen.py. -/
namespace Go.Proofs.YtjbajpfonnnfoaaGreatDoor
noncomputable section
open Go.Abs Go.Proofs
set_option maxRecDepth 100000
def kk29:=kk28.b (s:=WM) (bnd (kk28.pk yV rF) [(4,.c 31 (amZ 0++am0 2 0++am0 3 1++[.t 4 roI,.t 5 roI]) [(0,3),(2,4),(3,4)] [(0,0,0),(2,2,0),(3,3,0)])] Tryz.f152)
theorem yT:∀n,jw Tryz.prog (Ac n)
 | 0=>(λw S bb vs Et args x y h=>by cases h)
 | n+1=>
  have ih:=yT n
  bnd (s:=Ac (n+1)) ((kk29.b ih).pk yV rF) [] Tryz.f111
theorem MW:jw Tryz.prog Zg:=.fuel Ac (λn=>rfl) yT (λx=>siz (α:=aS) x.1+siz (α:=List Str) x.2.1+1) λx=>by kernel_rfl
def kk30:=kk29.b MW
def kk31:=kk30.ane Zk [] Tryz.f55
def kk32:=kk31.ane Qj [] Tryz.f20
def kk33:=kk32.ane Y8 [(4,.c 39 (amZ 0++am0 2 0++am0 3 1++[.t 4 roI,.t 5 roI]) [(0,3),(2,4),(3,4)] [(0,0,0),(2,2,0),(3,3,0)])] Tryz.f22
def kk34:=kk33.ane Uu [] Tryz.f63
def kk35:=kk34.ane Zm [(13,.c 47 (amZ 0++am0 2 0++am1 3++[.t 4 roI]) [(0,3),(2,4),(3,4)] [(0,0,0),(2,2,0),(3,3,0)])] Tryz.f23
def kk36:=kk35.anb Qo [] Tryz.f35
def kk37:=kk36.anb Me [] Tryz.f67
def kk38:=kk37.anb Uf [] Tryz.f86
def kk39:=kk38.ane aeh [] Tryz.f112
def akV:=kk39.ane acg [] Tryz.f113
theorem lZ:∀n,jw Tryz.prog (rD n)/\jw Tryz.prog (rq n)
 | 0=>⟨(λw S bb vs Et args x y h=>by cases h),(λw S bb vs Et args x y h=>by cases h)⟩
 | n+1=>
  have ih:=lZ n
  ⟨bnd (s:=rD (n+1)) ((akV.b ih.1).b ih.2) [(4,.c 26 (amZ 0++[.t 1 roI]++am2 4 0 1 2++amX 5 0 [roI,roI,roI,roS,(.own (.base .val) false true 3),(owE .str 6),(owE .row 7)]++[.t 6 roI,.t 7 roI]) [(0,3),(4,7),(5,7)] [(0,0,0),(4,4,0),(5,5,0)])] Tryz.f114,
  bnd (s:=rq (n+1)) ((akV.b ih.1).b ih.2) [] Tryz.f153⟩
theorem EY:jw Tryz.prog Qd:=.fuel rD (λn=>rfl) (λn=>(lZ n).1) (λx=>siz (α:=aS) x.1+9) λx=>by kernel_rfl
def kk41:=akV.b EY
theorem EX:jw Tryz.prog Qc:=.fuel rq (λn=>rfl) (λn=>(lZ n).2) (λx=>siz (α:=aS) x.1+9) λx=>by kernel_rfl
def kk42:=kk41.b EX
def kk43:=kk42.ane Ur [(4,.c 23 (amZ 0++am2 2 0 1 4++am2 3 5 6 7++[.t 4 roI,.t 5 roI]) [(0,3),(2,7),(3,7)] [(0,0,0),(2,2,0),(3,3,0)])] Tryz.f115
def kk44:=kk43.anb Mc [] Tryz.f116
def kk45:=kk44.ane acj [(5,.c 31 (amZ 0++[.t 3 (owE .origin 0),.t 4 roI,.t 5 roI,.t 6 roI]) [(0,3)] [(0,0,0)])] Tryz.f154
theorem rC:jw Tryz.prog MJ:=bnd (kk45.trs [17,27]) [(14,.c 58 (amZ 0++am2 2 0 1 3++[.t 4 roI]++am2 5 4 6 7++[.t 6 roI,.t 7 roI]++am3 8 9 11++[.t 9 roI]) [(0,3),(2,7),(5,7),(8,2)] [(0,0,0),(2,2,0),(5,5,0),(8,8,0)]),(10,.c 58 (amZ 0++am2 2 0 1 3++[.t 4 roI]++am2 5 4 6 7++[.t 6 roI,.t 7 roI]) [(0,3),(2,7),(5,7)] [(0,0,0),(2,2,0),(5,5,0)])] Tryz.f117
def kk46:=kk45.b rC
def kk47:=kk46.ane ack [] Tryz.f64
def kk48:=kk47.anb WA [] Tryz.f42
def kk49:=kk48.anb Us [] Tryz.f99
theorem yX:∀n,Sound Tryz.prog (Aj n)
 | 0=>.ang
 | n+1=>
  have ih:=yX n
  snd (s:=Aj (n+1)) (kk49.f ih) [(3,.c 22 (am4 1++[.t 3 roI,.t 4 roI]) [(1,7)] [(1,1,0)])] Tryz.f100
theorem Nj:Sound Tryz.prog Zp:=.fuel Aj (λn=>rfl) yX (λx=>siz (α:=af) x+1) λx=>by kernel_rfl
def kk50:=kk49.f Nj
def kk51:=kk50.anb Nl [(2,.c 18 [.t 0 (roL .str),.t 3 roI] [] [])] Tryz.f145
def kk52:=kk51.anb Ut [(2,.c 23 [.t 0 (roL .str),.t 3 roI] [] [])] Tryz.f101
def kk53:=kk52.anb WC [] Tryz.f146
def kk54:=kk53.anb ML [(2,.c 41 [.t 0 (roL .origin),.t 3 roI] [] [])] Tryz.f102
def akU:=kk54.anb Y1 [(10,.c 55 (am4 1++[.t 3 roI]++am5 4++[.t 5 roI]) [(1,7),(4,2)] [(1,1,0),(4,4,0)]),(4,.c 55 (am4 1++[.t 3 roI]) [(1,7)] [(1,1,0)])] Tryz.f45
theorem kH:∀n,Sound Tryz.prog (oz n)/\Sound Tryz.prog (DI n)
 | 0=>⟨(λw S args x y h=>by cases h),(λw S args x y h=>by cases h)⟩
 | n+1=>
  have ih:=kH n
  ⟨snd (s:=oz (n+1)) ((akU.f ih.1).f ih.2) [(1000003,.c 95 (am4 1) [(1,7)] [(1,1,0)]),(1000005,.c 95 (am4 1) [(1,7)] [(1,1,0)])] Tryz.f14,
  snd (s:=DI (n+1)) ((akU.f ih.1).f ih.2) [(2,.c 36 (am4 1++[.t 3 roI]) [(1,7)] [(1,1,0)])] Tryz.f44⟩
theorem CV:Sound Tryz.prog JQ:=.fuel oz (λn=>rfl) (λn=>(kH n).1) (λx=>siz (α:=af) x+1) λx=>by kernel_rfl
def kk56:=akU.f CV
theorem Qb:Sound Tryz.prog aci:=.fuel DI (λn=>rfl) (λn=>(kH n).2) (λx=>siz (α:=af) x+1) λx=>by kernel_rfl
def kk57:=kk56.f Qb
def kk58:=kk57.anb aeg [] Tryz.f96
theorem zT:∀n,Sound Tryz.prog (DJ n)
 | 0=>.ang
 | n+1=>
  have ih:=zT n
  snd (s:=DJ (n+1)) (kk58.f ih) [(7,.c 56 (am4 1++am2 2 0 4 5++am2 3 6 7 8++[.t 5 roI]) [(1,7),(2,7),(3,7)] [(1,1,0),(2,2,0),(3,3,0)]),(3,.c 56 (am4 1++am2 2 0 4 5++am2 3 6 7 8++[.t 4 roI]) [(1,7),(2,7),(3,7)] [(1,1,0),(2,2,0),(3,3,0)])] Tryz.f38
theorem Qe:Sound Tryz.prog acn:=.fuel DJ (λn=>rfl) zT (λx=>siz (α:=af) x+1) λx=>by kernel_rfl
def kk59:=kk58.f Qe
theorem qZ:Sound Tryz.prog Md:=snd kk59 [(5,.c 39 ([.t 0 roI]++am2 4 0 1 2++am2 5 6 7 8++[.t 6 roI]) [(4,7),(5,7)] [(4,4,0),(5,5,0)])] Tryz.f118
def kk60:=kk59.f qZ
end
end Go.Proofs.YtjbajpfonnnfoaaGreatDoor
