import Derived.Test.YtbbmkcioplbhbaaGreatDoorMk
import Derived.Test.YtbbmkcioplbhbaaGreatDoorReplay2
set_option linter.unusedSimpArgs false
set_option linter.unusedVariables false
/- The library's functions as contracts at this program; the integer of a range with a text. -/
namespace Go.Proofs.YtbbmkcioplbhbaaGreatDoor
open Go.Abs Go.Proofs Go.Shelf Go.RowKit Go.Lib Go.Sort
theorem Ux:Sound Tryz.prog agL:=adR l171 (fun w h=>h.tab)
theorem Gw:Sound Tryz.prog QU:=N8 l99
theorem Gv:Sound Tryz.prog QT:=NM l137
theorem Uw:Sound Tryz.prog agK:=adQ l156 x156
theorem Yk (w : World) (h : amb w) : ∃ m, w.cell? ⟨(aje.g 1), 0, none⟩ = some (.int .i64 m) := by have e : (Tryz.prog.globalNamed "internal/bytealg.MaxLen").getD 0 = aje.g 1 := by { kernel_rfl }; have q := h.aoZ; rw [e] at q; exact q
theorem QS:Sound Tryz.prog adH:=ZI l146 (by kernel_rfl) Yk
theorem xQ:callable Tryz.prog pU.fid=true:=by kernel_rfl
theorem AX:LG Tryz.prog pU:=H7 l192
theorem ab5(w:World)(e:TypeId)(t:ByteArray):Below w.heap.size w (Go.Lib.bytesWorld w e t):=by
 refine⟨rfl,rfl,rfl,?_,fun k a=>?_⟩
 ·simp[Go.Lib.bytesWorld,World.freeze,World.alloc]
 ·unfold Go.Lib.bytesWorld World.freeze;show ((w.drew.alloc _).heap.modify w.heap.size _)[k]?=_
  rw[Array.getElem?_modify,if_neg (by omega)];exact Below.heap_alloc w.drew _ _ a
def Zp(s:Str)(e:Ending):Prop:=match Go.Lib.atoiAll s with
 | .ok v=>e=.returned (.tuple #[.int .i64 v,.nilIface])
 | _=>∃n t p,e=.returned (.tuple #[.int .i64 n,.iface t p])
theorem akm(s:Str)(i:s.length<=34359738368)(w:World)(d:amb w) :
  Calls Tryz.prog (alZ.f 172) #[.string ⟨s.toArray⟩] w fun e w'=>Zp s e/\Below w.heap.size w w':=by
 have a:(⟨s.toArray⟩:ByteArray).size=s.length:=by show s.toArray.size=_;simp
 have g:(⟨s.toArray⟩:ByteArray).data.toList=s:=rfl;unfold Zp;cases h:Go.Lib.atoiAll s with
 | ok v=>
  refine (Any.strconv_Atoi_ok ald ⟨s.toArray⟩ (by rw[a];omega) v h w).mono ?_;rintro e w' ⟨rfl,b | ⟨t,b⟩⟩
  ·subst b;exact⟨rfl,Below.refl _ _⟩
  ·subst b;exact⟨rfl,ab5 _ _ _⟩
 | range=>
  obtain⟨tp,p,hv⟩:=d.2.2.2;refine (Any.strconv_Atoi_range_var ald ⟨s.toArray⟩ (by rw[a];omega) h tp p w hv).mono ?_;rintro e w' ⟨N,rfl,_,_,c⟩;exact⟨⟨_,_,_,rfl⟩,c⟩
 | _=>
  obtain⟨tp,p,hv⟩:=d.2.2.1;refine (Any.strconv_Atoi_syntax_var ald ⟨s.toArray⟩ (by rw[a];omega) h tp p w hv).mono ?_;rintro e w' ⟨N,rfl,_,_,c⟩;exact⟨⟨_,_,_,rfl⟩,c⟩
theorem Td{s:Str}{v:Int}(h:Go.Lib.atoiAll s=.ok v):-9223372036854775808<=v/\v<=9223372036854775807:=by
 unfold Go.Lib.atoiAll at h;split at h
 ·cases h
 ·simp only at h;split at h
  ·cases h
  ·cases h
  ·split at h
   ·cases h
   ·split at h
    ·cases h
    ·rename_i u _ h1 h2;cases h
     split<;>omega
def Tq(s:Str)(lo hi:Int)(e:Ending):Prop:=∃r,qP s lo hi=some r/\e=.returned (.tuple #[.int .i64 r.1,.bool r.2])
theorem agx{s:Str}{lo hi v:Int}(b:s.length<=34359738368)(h:Go.Lib.atoiAll s=.ok v)(h1:lo<=v)(h2:v<=hi)(c:Go.Lib.itoa v=s):Tq s lo hi (.returned (.tuple #[.int .i64 v,.bool true])):=by
 refine⟨(v,true),?_,rfl⟩;have a:gd s.length=some ():=by unfold gd;simp[b]
 unfold qP;rw[a,h];simp only[zA];rw[if_neg];rintro (q | q | q)
 ·omega
 ·omega
 ·exact q c
theorem BV{s:Str}{lo hi:Int}(b:s.length<=34359738368)(h:∀v,Go.Lib.atoiAll s=.ok v->v<lo\/hi<v\/Go.Lib.itoa v≠s):Tq s lo hi (.returned (.tuple #[.int .i64 0,.bool false])):=by
 refine⟨(0,false),?_,rfl⟩;have a:gd s.length=some ():=by unfold gd;simp[b]
 unfold qP;rw[a];simp only[zA];cases hv:Go.Lib.atoiAll s with
 | ok v=>simp only;rw[if_pos (h v hv)]
 | range=>rfl
 | _=>rfl
set_option maxHeartbeats 4000000 in
set_option maxRecDepth 100000 in
theorem adp(s:Str)(lo hi:Int)(f:s.length<=34359738368)(w:World)(j:amb w) :
  Calls Tryz.prog 264 #[.string ⟨s.toArray⟩,.int .i64 lo,.int .i64 hi] w fun e w'=>Tq s lo hi e/\Below w.heap.size w w':=by
 have mixed:=ald.mixed;have b:=akm s f w j;have m:gd s.length=some ():=by unfold gd;simp[f]
 unfold Zp at b;cases h:Go.Lib.atoiAll s with
 | ok v=>
  rw[h]at b;simp only at b;go_enter Tryz.func264,Tryz.ntmps264
  go_wp2_with (first | (go_at_call 289;refine b.mono ?_;rintro e g ⟨rfl,d⟩;have l:=amb.keep j d.size fun k o=>d.block k (aD o j.size);have HB:Hid (Below w.heap.size w g):=d;clear d) | (go_at_call 273;refine (Any.strconv_Itoa l171 v (Td h).1 (Td h).2 _ l.tab).mono ?_;rintro e r ⟨rfl,k,os,rfl⟩))
  all_goals go_ret2
  ·rename_i k os c;refine⟨BV f fun v' a=>?_,HB.out.trans ((below_grow g k os).mono HB.out.size)⟩;have e:v'=v:=by rw[h]at a;cases a;rfl
   subst e;rcases c with c | c
   ·exact c.elim .inl fun q=>.inr (.inl q)
   ·exact .inr (.inr (by simpa using c))
  ·rename_i k os c;exact⟨agx f h c.1.1 c.1.2 (by simpa using c.2),HB.out.trans ((below_grow g k os).mono HB.out.size)⟩
  ·rename_i i;refine⟨BV f fun v' a=>?_,HB.out⟩;rw[h]at a;cases a;exact .inr (.inl i)
  ·rename_i i;refine⟨BV f fun v' a=>?_,HB.out⟩;rw[h]at a;cases a;exact .inl i
 | range=>
  rw[h]at b;simp only at b;go_enter Tryz.func264,Tryz.ntmps264
  go_wp2_with (go_at_call 289;refine b.mono ?_;rintro e g ⟨⟨n,t,p,rfl⟩,d⟩;have HB:Hid (Below w.heap.size w g):=d;clear d)
  all_goals go_ret2
  exact⟨BV f fun v' a=>(by rw[h]at a;cases a),HB.out⟩
 | _=>
  rw[h]at b;simp only at b;go_enter Tryz.func264,Tryz.ntmps264
  go_wp2_with (go_at_call 289;refine b.mono ?_;rintro e g ⟨⟨n,t,p,rfl⟩,d⟩;have HB:Hid (Below w.heap.size w g):=d;clear d)
  all_goals go_ret2
  exact⟨BV f fun v' a=>(by rw[h]at a;cases a),HB.out⟩
theorem YC:Sound Tryz.prog ajy:=by
 intro w S args x y h d a m;rcases args with _ | ⟨u,_ | ⟨f,_ | ⟨i,_ | ⟨n,r⟩⟩⟩⟩
 ·exact a.elim
 ·exact a.2.elim
 ·exact a.2.2.elim
 ·have j:=lT (show Rep w S (.str x.1) u from a.1.1);have b:=vM (show Rep w S (.int .i64 x.2.1) f from a.2.1.1);have c:=vM (show Rep w S (.int .i64 x.2.2) i from a.2.2.1);subst j;subst b;subst c;have h:qP x.1 x.2.1 x.2.2=some y:=h;have k:List.length x.1<=34359738368:=by
   unfold qP at h;obtain⟨_,g,_⟩:=zB.1 h;exact jf g
  refine (adp x.1 x.2.1 x.2.2 k w d).mono ?_;rintro e w' ⟨⟨r,a,rfl⟩,l⟩;rw[h]at a;cases a
  exact⟨_,rfl,l,Ug _ _⟩
 ·exact a.2.2.elim
end Go.Proofs.YtbbmkcioplbhbaaGreatDoor
