import Derived.Test.YtjbajpfonnnfoaaGreatDoorLib1
import Derived.Shelf.SlSortFuncK.PartialInsertionK
import Derived.Sort.WalkC4
import Derived.Shelf.SlSortFuncK.BreakPatternsK
import Derived.Sort.Walk13
import Derived.Sort.AssemblyPlain
import Derived.Shelf.SlSortFuncK.WholeK
set_option linter.unusedSimpArgs false
set_option linter.unusedVariables false
/- partialInsertionSort, at elements of k cells, with a 'less' that may lay boxes of its own (printed by genpdq5.py). -/
namespace Go.Proofs
open Go.Shelf Go.RowKit Go.Lib Go.Sort
variable {P:Program} {ρ:Ren} {α:Type} [Inhabited α] {enc:α->List Value} {k:Nat} {w0 w1 W W':World} {blk off:Nat} {dk dj d:Array α} {lt:α->α->Bool} {g sf:Nat} {lb sb:Array Value} {T:TypeId}
set_option maxHeartbeats 16000000 in
set_option maxRecDepth 1000000 in
theorem Aa(L:LaysGg.n31 P ρ)(a b:Nat)(h:kF P enc k lt g lb sf sb blk off d W)(hab:a<b)(hb:b<=d.size) :
  Calls P (ρ.f 31) #[.agg #[.func (.func g) #[] lb,.func (.func sf) #[] sb],.int .i64 a,.int .i64 b] W fun e w'=>e=.returned (.bool (Sort.partialInsertionSort lt d a b).2)/\SWK enc k W blk off (Sort.partialInsertionSort lt d a b).1 w':=by
 have mixed:=L.mixed;have t0:=L.t0;have a0:=L.a0;have z0:=L.z0;have v0:=L.v0;have t3:=L.t3;have a3:=L.a3;have z3:=L.z3;have v3:=L.v3;have t4:=L.t4;have a4:=L.a4;have z4:=L.z4;have v4:=L.v4;have t26:=L.t26;have a26:=L.a26;have z26:=L.z26;have v26:=L.v26;have t37:=L.t37;have a37:=L.a37;have z37:=L.z37;have v37:=L.v37;have t44:=L.t44;have a44:=L.a44;have z44:=L.z44;have v44:=L.v44;have u44:=run_underlying L.t44;have eg:=h.eg;have hsz:=h.sz;obtain⟨S,T,hS⟩:=h.bx (ρ.t 44);have HL:Hid (∀(X:Array α) (j:Nat) (v:Bool) (w:World),S X w->X.size=d.size->1<=j->j<d.size->lt X[j]! X[j-1]! = v->Calls P g (#[.int .i64 (j:Int),.int .i64 ((j:Int)-1)]++lb) w fun e w'=>e=.returned (.bool v)/\S X w'):=fun X j v w U V h1 Y H=>by
  have z:=T.less j (j-1) U V Y (by omega);rw[H,show ((j-1:Nat):Int)=(j:Int)-1 by omega]at z;exact z
 have HS:Hid (∀(X:Array α) (j:Nat) (w:World),S X w->X.size=d.size->1<=j->j<d.size->∃w',(callFunc sf (#[.int .i64 (j:Int),.int .i64 ((j:Int)-1)]++sb)).run P w=.ok (.value (.tuple #[])) w'/\S (swp X j (j-1)) w'):=fun X j w U V h1 Y=>by
  have z:=T.swap j (j-1) U V Y (by omega);rw[show ((j-1:Nat):Int)=(j:Int)-1 by omega]at z;exact z
 have HD:Hid _:=T;have D1:Hid _:=hS;clear T hS h;go_enter L.f31,BodyGg.n31_ntmps ρ
 go_wp2
 go_loopg [7,8] 5 (fun g1 vi vs wr=>∃(i s:Nat) (dk:Array α),vi=.int .i64 i/\vs=.int .i64 s/\s<=5/\5-s<=g1/\a<i/\i<=b/\dk.size=d.size/\Hid (S dk wr)/\Hid (partialIns lt a b (5-s) i dk=partialIns lt a b 5 (a+1) d))
 case atStart=>exact⟨a+1,0,d,by go_num,rfl,by omega,by omega,by omega,by omega,rfl,D1,rfl⟩
 case round=>
  obtain⟨i,s,dk,rfl,rfl,hs5,hg1,hai,Z,u,HW,HO⟩:=hrel
  by_cases D:s<5
  ·have hsz5:(s:Int)<5:=by omega
   go_wp2
   go_loopg [7] (b-i) (fun g2 vi wr2=>∃kx:Nat,vi=.int .i64 kx/\i<=kx/\kx<=b/\b-kx<=g2/\Hid (S dk wr2)/\Hid (scanSorted lt dk b kx=scanSorted lt dk b i))
   case atStart=>exact⟨i,rfl,ar _,Z,ar _,HW,rfl⟩
   case round=>
    clear HW
    obtain⟨kx,rfl,hik,hkb,hg2,HW,HSc⟩:=hrel
    have c0:=HD.out.c0 HW.out
    by_cases J:kx<b
    ·have hkz:(kx:Int)<(b:Int):=by omega
     cases E:lt dk[kx]! dk[kx-1]! with
     | false=>
      have z:=HL.out dk kx false _ HW.out u (by omega) (by omega) E;go_wp2_with (go_at_fn g;refine z.mono ?_;rintro e w' ⟨rfl,c⟩;have HW3:Hid _:=c;clear c)
      go_roundg (b-(kx+1))
      case measure=>omega
      case rel=>exact⟨kx+1,by go_num,by omega,by omega,ar _,HW3,(show Hid _ from by rw[<- HSc.out,scanSorted_go lt dk b kx J E];exact rfl)⟩
     | true=>
      have z:=HL.out dk kx true _ HW.out u (by omega) (by omega) E;have HK:Hid (scanSorted lt dk b i=kx):=by show _=_;rw[<- HSc.out,scanSorted_stop lt dk b kx (Or.inr E)]
      have hkne:((kx:Int)==(b:Int))=false:=beq_eq_false_iff_ne.2 (by omega);by_cases r:b-a<50
      ·have h50z:(b:Int)-(a:Int)<50:=by omega
       go_wp2_with (go_at_fn g;refine z.mono ?_;rintro e w' ⟨rfl,c⟩;have HW3:Hid _:=c;clear c)
       have H:Sort.partialInsertionSort lt d a b=(dk,false):=by
        unfold Sort.partialInsertionSort;rw[<- HO.out,pi_short lt a b s i dk D (by rw[HK.out];omega) r]
       rw[H];go_ret
       exact⟨rfl,HD.out.fin HW3.out u⟩
      ·have h50z:¬((b:Int)-(a:Int)<50):=by omega
       have K:(swp dk kx (kx-1)).size=d.size:=by rw[size_swp];exact u
       by_cases I:kx-a>=2
       ·have hkaz:(2:Int)<=(kx:Int)-(a:Int):=by omega
        go_wp2_with (go_at_fn g;refine z.mono ?_;rintro e w' ⟨rfl,c⟩;have c1':=HD.out.c1 c;obtain⟨w3,A,n⟩:=HS.out dk kx _ c u (by omega) (by omega);have HW1:Hid _:=n;clear c n)
        go_loopg [9] (kx-1) (fun g3 vj wr3=>∃(j:Nat) (dj:Array α),vj=.int .i64 j/\j<=kx-1/\j<=g3/\dj.size=d.size/\Hid (S dj wr3)/\Hid (shiftDown lt j dj=shiftDown lt (kx-1) (swp dk kx (kx-1))))
        case atStart=>exact⟨kx-1,swp dk kx (kx-1),by congr 1;omega,ar _,ar _,K,HW1,rfl⟩
        case round=>
         obtain⟨j,dj,rfl,hjk,hg3,x,HWj,HDn⟩:=hrel
         have cj0:=HD.out.c0 HWj.out
         by_cases F:1<=j
         ·have hj1z:(1:Int)<=(j:Int):=by omega
          cases y:lt dj[j]! dj[j-1]! with
          | true=>
           have G:=HL.out dj j true _ HWj.out x F (by omega) y;go_wp2_with (go_at_fn g;refine G.mono ?_;rintro e w' ⟨rfl,c⟩;have c1':=HD.out.c1 c;obtain⟨w3,A,n⟩:=HS.out dj j _ c x F (by omega);have HW3:Hid _:=n;clear c n)
           go_roundg (j-1)
           case measure=>omega
           case rel=>exact⟨j-1,swp dj j (j-1),by congr 1;omega,by omega,ar _,by rw[size_swp];exact x,HW3,(show Hid _ from by rw[<- HDn.out,shiftDown_go lt j dj F y];exact rfl)⟩
          | false=>
           have G:=HL.out dj j false _ HWj.out x F (by omega) y;have HDn':Hid (fixDown lt a kx (swp dk kx (kx-1))=dj):=by show _=_;unfold fixDown;rw[if_pos I,<- HDn.out,shiftDown_stop lt j dj (Or.inr y)]
           by_cases q:b-kx>=2
           ·have hbkz:(2:Int)<=(b:Int)-(kx:Int):=by omega
            go_wp2_with (go_at_fn g;refine G.mono ?_;rintro e w' ⟨rfl,c⟩;have HWd:Hid _:=c;clear c)
            go_loopg [10] (b-(kx+1)) (fun M vj B=>∃(ju:Nat) (du:Array α),vj=.int .i64 ju/\kx+1<=ju/\ju<=b/\b-ju<=M/\du.size=d.size/\Hid (S du B)/\Hid (shiftUp lt b ju du=shiftUp lt b (kx+1) dj))
            case atStart=>exact⟨kx+1,dj,by go_num,ar _,by omega,ar _,x,HWd,rfl⟩
            case round=>
             obtain⟨ju,du,rfl,N,O,Q,m,HWu,HU⟩:=hrel
             have R:=HD.out.c0 HWu.out
             by_cases o:ju<b
             ·have C:(ju:Int)<(b:Int):=by omega
              cases l:lt du[ju]! du[ju-1]! with
              | true=>
               have p:=HL.out du ju true _ HWu.out m (by omega) (by omega) l;go_wp2_with (go_at_fn g;refine p.mono ?_;rintro e w' ⟨rfl,c⟩;have c1':=HD.out.c1 c;obtain⟨w3,A,n⟩:=HS.out du ju _ c m (by omega) (by omega);have HW3:Hid _:=n;clear c n)
               go_roundg (b-(ju+1))
               case measure=>omega
               case rel=>exact⟨ju+1,swp du ju (ju-1),by go_num,by omega,by omega,ar _,by rw[size_swp];exact m,HW3,(show Hid _ from by rw[<- HU.out,shiftUp_go lt b ju du o l];exact rfl)⟩
              | false=>
               have p:=HL.out du ju false _ HWu.out m (by omega) (by omega) l;go_wp2_with (go_at_fn g;refine p.mono ?_;rintro e w' ⟨rfl,c⟩;have HW3:Hid _:=c;clear c)
               go_roundg (5-(s+1))
               case measure=>omega
               case rel=>exact⟨kx,s+1,du,rfl,by go_num,by omega,ar _,by omega,by omega,m,HW3,(show Hid _ from by rw[<- HO.out,pi_go lt a b s i kx dk D HK.out (by omega) r,HDn'.out,show fixUp lt b kx dj=du from by unfold fixUp;rw[if_pos q,<- HU.out,shiftUp_stop lt b ju du (Or.inr l)]];exact rfl)⟩
             ·have C:¬(ju:Int)<(b:Int):=by omega
              go_wp2
              go_roundg (5-(s+1))
              case measure=>omega
              case rel=>exact⟨kx,s+1,du,rfl,by go_num,by omega,ar _,by omega,by omega,m,HWu,(show Hid _ from by rw[<- HO.out,pi_go lt a b s i kx dk D HK.out (by omega) r,HDn'.out,show fixUp lt b kx dj=du from by unfold fixUp;rw[if_pos q,<- HU.out,shiftUp_stop lt b ju du (Or.inl o)]];exact rfl)⟩
           ·have hbkz:¬(2:Int)<=(b:Int)-(kx:Int):=by omega
            go_wp2_with (go_at_fn g;refine G.mono ?_;rintro e w' ⟨rfl,c⟩;have HWd:Hid _:=c;clear c)
            go_roundg (5-(s+1))
            case measure=>omega
            case rel=>exact⟨kx,s+1,dj,rfl,by go_num,by omega,ar _,by omega,by omega,x,HWd,(show Hid _ from by rw[<- HO.out,pi_go lt a b s i kx dk D HK.out (by omega) r,HDn'.out,show fixUp lt b kx dj=dj from by unfold fixUp;rw[if_neg q]];exact rfl)⟩
         ·have hj1z:¬(1:Int)<=(j:Int):=by omega
          have HDn':Hid (fixDown lt a kx (swp dk kx (kx-1))=dj):=by show _=_;unfold fixDown;rw[if_pos I,<- HDn.out,shiftDown_stop lt j dj (Or.inl (by omega))]
          by_cases q:b-kx>=2
          ·have hbkz:(2:Int)<=(b:Int)-(kx:Int):=by omega
           go_wp2
           go_loopg [10] (b-(kx+1)) (fun M vj B=>∃(ju:Nat) (du:Array α),vj=.int .i64 ju/\kx+1<=ju/\ju<=b/\b-ju<=M/\du.size=d.size/\Hid (S du B)/\Hid (shiftUp lt b ju du=shiftUp lt b (kx+1) dj))
           case atStart=>exact⟨kx+1,dj,by go_num,ar _,by omega,ar _,x,HWj,rfl⟩
           case round=>
            obtain⟨ju,du,rfl,N,O,Q,m,HWu,HU⟩:=hrel
            have R:=HD.out.c0 HWu.out
            by_cases o:ju<b
            ·have C:(ju:Int)<(b:Int):=by omega
             cases l:lt du[ju]! du[ju-1]! with
             | true=>
              have p:=HL.out du ju true _ HWu.out m (by omega) (by omega) l;go_wp2_with (go_at_fn g;refine p.mono ?_;rintro e w' ⟨rfl,c⟩;have c1':=HD.out.c1 c;obtain⟨w3,A,n⟩:=HS.out du ju _ c m (by omega) (by omega);have HW3:Hid _:=n;clear c n)
              go_roundg (b-(ju+1))
              case measure=>omega
              case rel=>exact⟨ju+1,swp du ju (ju-1),by go_num,by omega,by omega,ar _,by rw[size_swp];exact m,HW3,(show Hid _ from by rw[<- HU.out,shiftUp_go lt b ju du o l];exact rfl)⟩
             | false=>
              have p:=HL.out du ju false _ HWu.out m (by omega) (by omega) l;go_wp2_with (go_at_fn g;refine p.mono ?_;rintro e w' ⟨rfl,c⟩;have HW3:Hid _:=c;clear c)
              go_roundg (5-(s+1))
              case measure=>omega
              case rel=>exact⟨kx,s+1,du,rfl,by go_num,by omega,ar _,by omega,by omega,m,HW3,(show Hid _ from by rw[<- HO.out,pi_go lt a b s i kx dk D HK.out (by omega) r,HDn'.out,show fixUp lt b kx dj=du from by unfold fixUp;rw[if_pos q,<- HU.out,shiftUp_stop lt b ju du (Or.inr l)]];exact rfl)⟩
            ·have C:¬(ju:Int)<(b:Int):=by omega
             go_wp2
             go_roundg (5-(s+1))
             case measure=>omega
             case rel=>exact⟨kx,s+1,du,rfl,by go_num,by omega,ar _,by omega,by omega,m,HWu,(show Hid _ from by rw[<- HO.out,pi_go lt a b s i kx dk D HK.out (by omega) r,HDn'.out,show fixUp lt b kx dj=du from by unfold fixUp;rw[if_pos q,<- HU.out,shiftUp_stop lt b ju du (Or.inl o)]];exact rfl)⟩
          ·have hbkz:¬(2:Int)<=(b:Int)-(kx:Int):=by omega
           go_wp2
           go_roundg (5-(s+1))
           case measure=>omega
           case rel=>exact⟨kx,s+1,dj,rfl,by go_num,by omega,ar _,by omega,by omega,x,HWj,(show Hid _ from by rw[<- HO.out,pi_go lt a b s i kx dk D HK.out (by omega) r,HDn'.out,show fixUp lt b kx dj=dj from by unfold fixUp;rw[if_neg q]];exact rfl)⟩
       ·have hkaz:¬(2:Int)<=(kx:Int)-(a:Int):=by omega
        have HDn':Hid (fixDown lt a kx (swp dk kx (kx-1))=(swp dk kx (kx-1))):=by show _=_;unfold fixDown;rw[if_neg I]
        by_cases q:b-kx>=2
        ·have hbkz:(2:Int)<=(b:Int)-(kx:Int):=by omega
         go_wp2_with (go_at_fn g;refine z.mono ?_;rintro e w' ⟨rfl,c⟩;have c1':=HD.out.c1 c;obtain⟨w3,A,n⟩:=HS.out dk kx _ c u (by omega) (by omega);have HW1:Hid _:=n;clear c n)
         go_loopg [10] (b-(kx+1)) (fun M vj B=>∃(ju:Nat) (du:Array α),vj=.int .i64 ju/\kx+1<=ju/\ju<=b/\b-ju<=M/\du.size=d.size/\Hid (S du B)/\Hid (shiftUp lt b ju du=shiftUp lt b (kx+1) (swp dk kx (kx-1))))
         case atStart=>exact⟨kx+1,(swp dk kx (kx-1)),by go_num,ar _,by omega,ar _,K,HW1,rfl⟩
         case round=>
          obtain⟨ju,du,rfl,N,O,Q,m,HWu,HU⟩:=hrel
          have R:=HD.out.c0 HWu.out
          by_cases o:ju<b
          ·have C:(ju:Int)<(b:Int):=by omega
           cases l:lt du[ju]! du[ju-1]! with
           | true=>
            have p:=HL.out du ju true _ HWu.out m (by omega) (by omega) l;go_wp2_with (go_at_fn g;refine p.mono ?_;rintro e w' ⟨rfl,c⟩;have c1':=HD.out.c1 c;obtain⟨w3,A,n⟩:=HS.out du ju _ c m (by omega) (by omega);have HW3:Hid _:=n;clear c n)
            go_roundg (b-(ju+1))
            case measure=>omega
            case rel=>exact⟨ju+1,swp du ju (ju-1),by go_num,by omega,by omega,ar _,by rw[size_swp];exact m,HW3,(show Hid _ from by rw[<- HU.out,shiftUp_go lt b ju du o l];exact rfl)⟩
           | false=>
            have p:=HL.out du ju false _ HWu.out m (by omega) (by omega) l;go_wp2_with (go_at_fn g;refine p.mono ?_;rintro e w' ⟨rfl,c⟩;have HW3:Hid _:=c;clear c)
            go_roundg (5-(s+1))
            case measure=>omega
            case rel=>exact⟨kx,s+1,du,rfl,by go_num,by omega,ar _,by omega,by omega,m,HW3,(show Hid _ from by rw[<- HO.out,pi_go lt a b s i kx dk D HK.out (by omega) r,HDn'.out,show fixUp lt b kx (swp dk kx (kx-1))=du from by unfold fixUp;rw[if_pos q,<- HU.out,shiftUp_stop lt b ju du (Or.inr l)]];exact rfl)⟩
          ·have C:¬(ju:Int)<(b:Int):=by omega
           go_wp2
           go_roundg (5-(s+1))
           case measure=>omega
           case rel=>exact⟨kx,s+1,du,rfl,by go_num,by omega,ar _,by omega,by omega,m,HWu,(show Hid _ from by rw[<- HO.out,pi_go lt a b s i kx dk D HK.out (by omega) r,HDn'.out,show fixUp lt b kx (swp dk kx (kx-1))=du from by unfold fixUp;rw[if_pos q,<- HU.out,shiftUp_stop lt b ju du (Or.inl o)]];exact rfl)⟩
        ·have hbkz:¬(2:Int)<=(b:Int)-(kx:Int):=by omega
         exfalso;omega
    ·obtain rfl:kx=b:=by omega
     have hkz:¬(kx:Int)<(kx:Int):=by omega
     go_wp2
     have H:Sort.partialInsertionSort lt d a kx=(dk,true):=by
      unfold Sort.partialInsertionSort;rw[<- HO.out,pi_true lt a kx s i dk D (by rw[<- HSc.out,scanSorted_stop lt dk kx kx (Or.inl (by omega))])]
     rw[H];go_ret
     exact⟨rfl,HD.out.fin HW.out u⟩
  ·obtain rfl:s=5:=by omega
   go_wp2
   have H:Sort.partialInsertionSort lt d a b=(dk,false):=by
    unfold Sort.partialInsertionSort;rw[<- HO.out,pi_end]
   rw[H];go_ret
   exact⟨rfl,HD.out.fin HW.out u⟩
end Go.Proofs
/- partitionEqual, at elements of k cells, with a 'less' that may lay boxes of its own (printed by genpdq6.py). -/
namespace Go.Proofs
open Go.Shelf Go.RowKit Go.Lib Go.Sort
variable {P:Program} {ρ:Ren} {α:Type} [Inhabited α] {enc:α->List Value} {k:Nat} {w0 w1 W W':World} {blk off:Nat} {dk dj d:Array α} {lt:α->α->Bool} {g sf:Nat} {lb sb:Array Value} {T:TypeId}
set_option maxHeartbeats 12800000 in
set_option maxRecDepth 100000 in
theorem DR(L:LaysGg.n32 P ρ)(a b pivot:Nat)(h:kF P enc k lt g lb sf sb blk off d W)(K:a<=pivot)(M:pivot<b)(X:b<=d.size) :
  Calls P (ρ.f 32) #[.agg #[.func (.func g) #[] lb,.func (.func sf) #[] sb],.int .i64 a,.int .i64 b,.int .i64 pivot] W fun e w'=>e=.returned (.int .i64 (Sort.partitionEqual lt d a b pivot).1)/\SWK enc k W blk off (Sort.partitionEqual lt d a b pivot).2 w':=by
 have mixed:=L.mixed;have t0:=L.t0;have a0:=L.a0;have z0:=L.z0;have v0:=L.v0;have t3:=L.t3;have a3:=L.a3;have z3:=L.z3;have v3:=L.v3;have t4:=L.t4;have a4:=L.a4;have z4:=L.z4;have v4:=L.v4;have t26:=L.t26;have a26:=L.a26;have z26:=L.z26;have v26:=L.v26;have t37:=L.t37;have a37:=L.a37;have z37:=L.z37;have v37:=L.v37;have t44:=L.t44;have a44:=L.a44;have z44:=L.z44;have v44:=L.v44;have N:=run_underlying L.t44;have eg:=h.eg;have O:=h.sz;obtain⟨S,C,H⟩:=h.bx (ρ.t 44);have HD:Hid _:=C;obtain⟨Y,D,w⟩:=C.swap a pivot H rfl (by omega) (by omega);have I:Hid _:=w;clear C H h w;go_enter L.f32,BodyGg.n32_ntmps ρ
 go_wp2
 go_loopw [9,10] (fun vi vj wr=>∃(i j:Nat) (dk:Array α),vi=.int .i64 i/\vj=.int .i64 j/\a<i/\i<=j+1/\j<b/\dk.size=d.size/\Hid (S dk wr)/\Hid (Sort.partEqLoop lt a i j dk=Sort.partEqLoop lt a (a+1) (b-1) (Sort.swp d a pivot)))
  (fun vi vj _=>(intOf vj).toNat+1-(intOf vi).toNat)
 case atStart=>exact⟨a+1,b-1,Sort.swp d a pivot,by go_num,by go_num,by omega,by omega,by omega,size_swp _ _ _,I,rfl⟩
 case round=>
  clear I D
  obtain⟨i,j,dk,rfl,rfl,Q,E,R,v,HW,AE⟩:=hrel
  go_wp2
  go_loopw [9] (fun vi w1=>∃i':Nat,vi=.int .i64 i'/\i<=i'/\i'<=j+1/\Hid (S dk w1)/\Hid (Sort.scanUp (fun x=>!lt dk[a]! x) dk j i'=Sort.scanUp (fun x=>!lt dk[a]! x) dk j i)) (fun vi _=>j+1-(intOf vi).toNat)
  case atStart=>exact⟨i,rfl,ar _,E,HW,rfl⟩
  case round=>
   clear HW
   obtain⟨i',rfl,T,u,HW,p⟩:=hrel
   have B:=HD.out.c0 HW.out
   by_cases y:i'<=j
   ·have r:=HD.out.less a i' HW.out v (by omega) (by omega);cases s:lt dk[a]! dk[i']! with
    | false=>
     rw[s]at r;go_wp2_with (go_at_fn g;refine r.mono ?_;rintro e w' ⟨rfl,c⟩;have HW2:Hid _:=c;clear c)
     go_roundw
     case rel=>exact⟨i'+1,by go_num,by omega,by omega,HW2,(scanUp_go (fun x=>!lt dk[a]! x) dk j i' y (by simp[s])).symm.trans p.out⟩
     case measure=>simp[intOf];omega
    | true=>
     rw[s]at r;have q:Hid (i'=Sort.scanUp (fun x=>!lt dk[a]! x) dk j i):=(scanUp_end (fun x=>!lt dk[a]! x) dk j i' (Or.inr (by simp[s]))).symm.trans p.out;go_wp2_with (go_at_fn g;refine r.mono ?_;rintro e w' ⟨rfl,c⟩;have HW2:Hid _:=c;clear c)
     clear B p r HW;go_loopw [10] (fun vj w2=>∃j':Nat,vj=.int .i64 j'/\j'<=j/\i'<=j'+1/\Hid (S dk w2)/\Hid (Sort.scanDown (fun x=>lt dk[a]! x) dk i' j'=Sort.scanDown (fun x=>lt dk[a]! x) dk i' j)) (fun vj _=>(intOf vj).toNat)
     case atStart=>exact⟨j,rfl,ar _,u,HW2,rfl⟩
     case round=>
      clear HW2
      obtain⟨j',rfl,F,z,HV,l⟩:=hrel
      have B:=HD.out.c0 HV.out
      have U:=HD.out.c1 HV.out
      by_cases m:i'<=j'
      ·have r:=HD.out.less a j' HV.out v (by omega) (by omega);cases n:lt dk[a]! dk[j']! with
       | true=>
        rw[n]at r;go_wp2_with (go_at_fn g;refine r.mono ?_;rintro e w' ⟨rfl,c⟩;have HW2:Hid _:=c;clear c)
        go_roundw
        case rel=>exact⟨j'-1,by go_num,by omega,by omega,HW2,(scanDown_go (fun x=>lt dk[a]! x) dk i' j' m (by omega) n).symm.trans l.out⟩
        case measure=>simp[intOf];omega
       | false=>
        rw[n]at r;have o:Hid (j'=Sort.scanDown (fun x=>lt dk[a]! x) dk i' j):=(scanDown_end (fun x=>lt dk[a]! x) dk i' j' (Or.inr n)).symm.trans l.out;have J:=scans_lt lt a i j dk (by omega) q.out o.out m;clear l;go_wp2_with (go_at_fn g;refine r.mono ?_;rintro e w' ⟨rfl,c⟩;have d1':=HD.out.c1 c;obtain⟨w3,V,A⟩:=HD.out.swap i' j' c v (by omega) (by omega);have HX:Hid _:=A;clear c A)
        go_roundw
        case rel=>exact⟨i'+1,j'-1,Sort.swp dk i' j',by go_num,by go_num,by omega,by omega,by omega,by rw[size_swp];exact v,HX,(show Hid _ from by rw[<- AE.out];exact (partEq_go lt a i j dk q.out o.out (by omega)).symm)⟩
        case measure=>simp[intOf];omega
      ·have o:Hid (j'=Sort.scanDown (fun x=>lt dk[a]! x) dk i' j):=(scanDown_end (fun x=>lt dk[a]! x) dk i' j' (Or.inl m)).symm.trans l.out;clear l;go_wp2
       go_ret
       have e:=partEq_break lt a i j dk q.out o.out (by omega);have G:Sort.partitionEqual lt d a b pivot=(i',dk):=by unfold Sort.partitionEqual;rw[<- AE.out,e]
       rw[G];exact⟨rfl,HD.out.fin HV.out v⟩
   ·have q:Hid (i'=Sort.scanUp (fun x=>!lt dk[a]! x) dk j i):=(scanUp_end (fun x=>!lt dk[a]! x) dk j i' (Or.inl y)).symm.trans p.out;go_wp2
    clear B p;go_loopw [10] (fun vj w2=>∃j':Nat,vj=.int .i64 j'/\j'<=j/\i'<=j'+1/\Hid (S dk w2)/\Hid (Sort.scanDown (fun x=>lt dk[a]! x) dk i' j'=Sort.scanDown (fun x=>lt dk[a]! x) dk i' j)) (fun vj _=>(intOf vj).toNat)
    case atStart=>exact⟨j,rfl,ar _,u,HW,rfl⟩
    case round=>
     clear HW
     obtain⟨j',rfl,F,z,HV,l⟩:=hrel
     have B:=HD.out.c0 HV.out
     have U:=HD.out.c1 HV.out
     by_cases m:i'<=j'
     ·exfalso;omega
     ·have o:Hid (j'=Sort.scanDown (fun x=>lt dk[a]! x) dk i' j):=(scanDown_end (fun x=>lt dk[a]! x) dk i' j' (Or.inl m)).symm.trans l.out;clear l;go_wp2
      go_ret
      have e:=partEq_break lt a i j dk q.out o.out (by omega);have G:Sort.partitionEqual lt d a b pivot=(i',dk):=by unfold Sort.partitionEqual;rw[<- AE.out,e]
      rw[G];exact⟨rfl,HD.out.fin HV.out v⟩
end Go.Proofs
/- partition, at elements of k cells, with a 'less' that may lay boxes of its own (printed by genpdq6.py). -/
namespace Go.Proofs
open Go.Shelf Go.RowKit Go.Lib Go.Sort
variable {P:Program} {ρ:Ren} {α:Type} [Inhabited α] {enc:α->List Value} {k:Nat} {w0 w1 W W':World} {blk off:Nat} {dk dj d:Array α} {lt:α->α->Bool} {g sf:Nat} {lb sb:Array Value} {T:TypeId}
set_option maxHeartbeats 12800000 in
set_option maxRecDepth 100000 in
theorem Qg(L:LaysGg.n33 P ρ)(a b pivot:Nat)(h:kF P enc k lt g lb sf sb blk off d W)(hap:a<=pivot)(hpb:pivot<b)(hb:b<=d.size) :
  Calls P (ρ.f 33) #[.agg #[.func (.func g) #[] lb,.func (.func sf) #[] sb],.int .i64 a,.int .i64 b,.int .i64 pivot] W fun e w'=>e=.returned (.tuple #[.int .i64 (Sort.partition lt d a b pivot).1,.bool (Sort.partition lt d a b pivot).2.1])/\SWK enc k W blk off (Sort.partition lt d a b pivot).2.2 w':=by
 have mixed:=L.mixed;have t0:=L.t0;have a0:=L.a0;have z0:=L.z0;have v0:=L.v0;have t3:=L.t3;have a3:=L.a3;have z3:=L.z3;have v3:=L.v3;have t4:=L.t4;have a4:=L.a4;have z4:=L.z4;have v4:=L.v4;have t26:=L.t26;have a26:=L.a26;have z26:=L.z26;have v26:=L.v26;have t37:=L.t37;have a37:=L.a37;have z37:=L.z37;have v37:=L.v37;have t44:=L.t44;have a44:=L.a44;have z44:=L.z44;have v44:=L.v44;have u44:=run_underlying L.t44;have eg:=h.eg;have hsz:=h.sz;obtain⟨S,Q,X⟩:=h.bx (ρ.t 44);have HD:Hid _:=Q;obtain⟨i,Y⟩:∃i:Nat,i=a+1:=⟨_,rfl⟩;obtain⟨j,Z⟩:∃j:Nat,j=b-1:=⟨_,rfl⟩;obtain⟨dk,C⟩:∃dk:Array α,dk=Sort.swp d a pivot:=⟨_,rfl⟩;have v:dk.size=d.size:=by rw[C];exact size_swp _ _ _
 have R:a<i:=by omega
 have E:i<=j+1:=by omega
 have T:j<b:=by omega
 obtain⟨W1,U,F⟩:=Q.swap a pivot X rfl (by omega) (by omega);rw[<- C]at F;have HW:Hid _:=F;have Hi:Hid (i=a+1):=Y;have Hj:Hid (j=b-1):=Z;have Hdk:Hid (dk=Sort.swp d a pivot):=C;clear Q X h F Y Z C;go_enter L.f33,BodyGg.n33_ntmps ρ
 go_wp2
 rw[show ((a:Int)+1)=(i:Int) by have:=Hi.out;omega,show ((b:Int)-1)=(j:Int) by have:=Hj.out;omega];go_loopw [10] (fun vi w1=>∃i':Nat,vi=.int .i64 i'/\i<=i'/\i'<=j+1/\Hid (S dk w1)/\Hid (Sort.scanUp (fun x=>lt x dk[a]!) dk j i'=Sort.scanUp (fun x=>lt x dk[a]!) dk j i)) (fun vi _=>j+1-(intOf vi).toNat)
 case atStart=>exact⟨i,rfl,ar _,E,HW,rfl⟩
 case round=>
  clear HW
  obtain⟨i',rfl,V,w,HW,r⟩:=hrel
  have B:=HD.out.c0 HW.out
  by_cases y:i'<=j
  ·have s:=HD.out.less i' a HW.out v (by omega) (by omega);cases u:lt dk[i']! dk[a]! with
   | true=>
    rw[u]at s;go_wp2_with (go_at_fn g;refine s.mono ?_;rintro e w' ⟨rfl,c⟩;have HW2:Hid _:=c;clear c)
    go_roundw
    case rel=>exact⟨i'+1,by go_num,by omega,by omega,HW2,(scanUp_go (fun x=>lt x dk[a]!) dk j i' y u).symm.trans r.out⟩
    case measure=>simp[intOf];omega
   | false=>
    rw[u]at s;have q:Hid (i'=Sort.scanUp (fun x=>lt x dk[a]!) dk j i):=(scanUp_end (fun x=>lt x dk[a]!) dk j i' (Or.inr u)).symm.trans r.out;go_wp2_with (go_at_fn g;refine s.mono ?_;rintro e w' ⟨rfl,c⟩;have HW2:Hid _:=c;clear c)
    clear B r s HW;go_loopw [11] (fun vj w2=>∃j':Nat,vj=.int .i64 j'/\j'<=j/\i'<=j'+1/\Hid (S dk w2)/\Hid (Sort.scanDown (fun x=>!lt x dk[a]!) dk i' j'=Sort.scanDown (fun x=>!lt x dk[a]!) dk i' j)) (fun vj _=>(intOf vj).toNat)
    case atStart=>exact⟨j,rfl,ar _,w,HW2,rfl⟩
    case round=>
     clear HW2
     obtain⟨j',rfl,G,z,HV,l⟩:=hrel
     have B:=HD.out.c0 HV.out
     have O:=HD.out.c1 HV.out
     by_cases m:i'<=j'
     ·have s:=HD.out.less j' a HV.out v (by omega) (by omega);cases o:lt dk[j']! dk[a]! with
      | false=>
       rw[o]at s;go_wp2_with (go_at_fn g;refine s.mono ?_;rintro e w' ⟨rfl,c⟩;have HW2:Hid _:=c;clear c)
       go_roundw
       case rel=>exact⟨j'-1,by go_num,by omega,by omega,HW2,(scanDown_go (fun x=>!lt x dk[a]!) dk i' j' m (by omega) (by simp[o])).symm.trans l.out⟩
       case measure=>simp[intOf];omega
      | true=>
       rw[o]at s;have p:Hid (j'=Sort.scanDown (fun x=>!lt x dk[a]!) dk i' j):=(scanDown_end (fun x=>!lt x dk[a]!) dk i' j' (Or.inr (by simp[o]))).symm.trans l.out;have D:=part_scans_lt lt a i j dk (by omega) q.out p.out m;clear l;go_wp2_with (go_at_fn g;refine s.mono ?_;rintro e w' ⟨rfl,c⟩;have d1':=HD.out.c1 c;obtain⟨w3,A,n⟩:=HD.out.swap i' j' c v (by omega) (by omega);have HX:Hid _:=n;clear c n)
       rw[ac (show ¬j'<i' by omega)];obtain⟨K,H⟩:∃K:Nat,K=i'+1:=⟨_,rfl⟩;obtain⟨M,I⟩:∃M:Nat,M=j'-1:=⟨_,rfl⟩;obtain⟨N,J⟩:∃N:Array α,N=Sort.swp dk i' j':=⟨_,rfl⟩;have PF:Hid (Sort.partition lt d a b pivot=((Sort.partLoop lt a K M N).1,false,Sort.swp (Sort.partLoop lt a K M N).2 (Sort.partLoop lt a K M N).1 a)):=by
        rw[H,I,J];exact part_first_go lt d a b pivot Hi.out Hj.out Hdk.out q.out p.out (by omega)
       go_loopw [10,11] (fun vi vj wr=>∃(i j:Nat) (dk:Array α),vi=.int .i64 i/\vj=.int .i64 j/\a<i/\i<=j+1/\j<b/\dk.size=d.size/\Hid (S dk wr)/\Hid (Sort.partLoop lt a i j dk=Sort.partLoop lt a K M N))
        (fun vi vj _=>(intOf vj).toNat+1-(intOf vi).toNat)
       case atStart=>exact⟨i'+1,j'-1,Sort.swp dk i' j',by go_num,by go_num,by omega,by omega,by omega,by rw[size_swp];exact v,HX,by rw[H,I,J];exact rfl⟩
       case round=>
        clear H I J HX HV p q D B O s Hi Hj Hdk v U
        obtain⟨i,j,dk,rfl,rfl,R,E,T,v,HW,AE⟩:=hrel
        go_wp2
        go_loopw [10] (fun vi w1=>∃i':Nat,vi=.int .i64 i'/\i<=i'/\i'<=j+1/\Hid (S dk w1)/\Hid (Sort.scanUp (fun x=>lt x dk[a]!) dk j i'=Sort.scanUp (fun x=>lt x dk[a]!) dk j i)) (fun vi _=>j+1-(intOf vi).toNat)
        case atStart=>exact⟨i,rfl,ar _,E,HW,rfl⟩
        case round=>
         clear HW
         obtain⟨i',rfl,V,w,HW,r⟩:=hrel
         have B:=HD.out.c0 HW.out
         by_cases y:i'<=j
         ·have s:=HD.out.less i' a HW.out v (by omega) (by omega);cases u:lt dk[i']! dk[a]! with
          | true=>
           rw[u]at s;go_wp2_with (go_at_fn g;refine s.mono ?_;rintro e w' ⟨rfl,c⟩;have HW2:Hid _:=c;clear c)
           go_roundw
           case rel=>exact⟨i'+1,by go_num,by omega,by omega,HW2,(scanUp_go (fun x=>lt x dk[a]!) dk j i' y u).symm.trans r.out⟩
           case measure=>simp[intOf];omega
          | false=>
           rw[u]at s;have q:Hid (i'=Sort.scanUp (fun x=>lt x dk[a]!) dk j i):=(scanUp_end (fun x=>lt x dk[a]!) dk j i' (Or.inr u)).symm.trans r.out;go_wp2_with (go_at_fn g;refine s.mono ?_;rintro e w' ⟨rfl,c⟩;have HW2:Hid _:=c;clear c)
           clear B r s HW;go_loopw [11] (fun vj w2=>∃j':Nat,vj=.int .i64 j'/\j'<=j/\i'<=j'+1/\Hid (S dk w2)/\Hid (Sort.scanDown (fun x=>!lt x dk[a]!) dk i' j'=Sort.scanDown (fun x=>!lt x dk[a]!) dk i' j)) (fun vj _=>(intOf vj).toNat)
           case atStart=>exact⟨j,rfl,ar _,w,HW2,rfl⟩
           case round=>
            clear HW2
            obtain⟨j',rfl,G,z,HV,l⟩:=hrel
            have B:=HD.out.c0 HV.out
            have O:=HD.out.c1 HV.out
            by_cases m:i'<=j'
            ·have s:=HD.out.less j' a HV.out v (by omega) (by omega);cases o:lt dk[j']! dk[a]! with
             | false=>
              rw[o]at s;go_wp2_with (go_at_fn g;refine s.mono ?_;rintro e w' ⟨rfl,c⟩;have HW2:Hid _:=c;clear c)
              go_roundw
              case rel=>exact⟨j'-1,by go_num,by omega,by omega,HW2,(scanDown_go (fun x=>!lt x dk[a]!) dk i' j' m (by omega) (by simp[o])).symm.trans l.out⟩
              case measure=>simp[intOf];omega
             | true=>
              rw[o]at s;have p:Hid (j'=Sort.scanDown (fun x=>!lt x dk[a]!) dk i' j):=(scanDown_end (fun x=>!lt x dk[a]!) dk i' j' (Or.inr (by simp[o]))).symm.trans l.out;have D:=part_scans_lt lt a i j dk (by omega) q.out p.out m;clear l;go_wp2_with (go_at_fn g;refine s.mono ?_;rintro e w' ⟨rfl,c⟩;have d1':=HD.out.c1 c;obtain⟨w3,A,n⟩:=HD.out.swap i' j' c v (by omega) (by omega);have HX:Hid _:=n;clear c n)
              go_roundw
              case rel=>exact⟨i'+1,j'-1,Sort.swp dk i' j',by go_num,by go_num,by omega,by omega,by omega,by rw[size_swp];exact v,HX,(show Hid _ from by rw[<- AE.out];exact (part_go lt a i j dk q.out p.out (by omega)).symm)⟩
              case measure=>simp[intOf];omega
            ·have p:Hid (j'=Sort.scanDown (fun x=>!lt x dk[a]!) dk i' j):=(scanDown_end (fun x=>!lt x dk[a]!) dk i' j' (Or.inl m)).symm.trans l.out;clear l;obtain⟨w3,A,n⟩:=HD.out.swap j' a HV.out v (by omega) (by omega);have HX:Hid _:=n;clear n;go_wp2
             go_ret2
             have e:=part_break lt a i j dk q.out p.out (by omega);rw[PF.out,<- AE.out,e];exact⟨rfl,HD.out.fin HX.out (by rw[size_swp];exact v)⟩
         ·have q:Hid (i'=Sort.scanUp (fun x=>lt x dk[a]!) dk j i):=(scanUp_end (fun x=>lt x dk[a]!) dk j i' (Or.inl y)).symm.trans r.out;go_wp2
          clear B r;go_loopw [11] (fun vj w2=>∃j':Nat,vj=.int .i64 j'/\j'<=j/\i'<=j'+1/\Hid (S dk w2)/\Hid (Sort.scanDown (fun x=>!lt x dk[a]!) dk i' j'=Sort.scanDown (fun x=>!lt x dk[a]!) dk i' j)) (fun vj _=>(intOf vj).toNat)
          case atStart=>exact⟨j,rfl,ar _,w,HW,rfl⟩
          case round=>
           clear HW
           obtain⟨j',rfl,G,z,HV,l⟩:=hrel
           have B:=HD.out.c0 HV.out
           have O:=HD.out.c1 HV.out
           by_cases m:i'<=j'
           ·exfalso;omega
           ·have p:Hid (j'=Sort.scanDown (fun x=>!lt x dk[a]!) dk i' j):=(scanDown_end (fun x=>!lt x dk[a]!) dk i' j' (Or.inl m)).symm.trans l.out;clear l;obtain⟨w3,A,n⟩:=HD.out.swap j' a HV.out v (by omega) (by omega);have HX:Hid _:=n;clear n;go_wp2
            go_ret2
            have e:=part_break lt a i j dk q.out p.out (by omega);rw[PF.out,<- AE.out,e];exact⟨rfl,HD.out.fin HX.out (by rw[size_swp];exact v)⟩
     ·have p:Hid (j'=Sort.scanDown (fun x=>!lt x dk[a]!) dk i' j):=(scanDown_end (fun x=>!lt x dk[a]!) dk i' j' (Or.inl m)).symm.trans l.out;clear l;obtain⟨w3,A,n⟩:=HD.out.swap j' a HV.out v (by omega) (by omega);have HX:Hid _:=n;clear n;go_wp2
      go_ret2
      have e:=part_first_break lt d a b pivot Hi.out Hj.out Hdk.out q.out p.out (by omega);rw[e];exact⟨rfl,HD.out.fin HX.out (by rw[size_swp];exact v)⟩
  ·have q:Hid (i'=Sort.scanUp (fun x=>lt x dk[a]!) dk j i):=(scanUp_end (fun x=>lt x dk[a]!) dk j i' (Or.inl y)).symm.trans r.out;go_wp2
   clear B r;go_loopw [11] (fun vj w2=>∃j':Nat,vj=.int .i64 j'/\j'<=j/\i'<=j'+1/\Hid (S dk w2)/\Hid (Sort.scanDown (fun x=>!lt x dk[a]!) dk i' j'=Sort.scanDown (fun x=>!lt x dk[a]!) dk i' j)) (fun vj _=>(intOf vj).toNat)
   case atStart=>exact⟨j,rfl,ar _,w,HW,rfl⟩
   case round=>
    clear HW
    obtain⟨j',rfl,G,z,HV,l⟩:=hrel
    have B:=HD.out.c0 HV.out
    have O:=HD.out.c1 HV.out
    by_cases m:i'<=j'
    ·exfalso;omega
    ·have p:Hid (j'=Sort.scanDown (fun x=>!lt x dk[a]!) dk i' j):=(scanDown_end (fun x=>!lt x dk[a]!) dk i' j' (Or.inl m)).symm.trans l.out;clear l;obtain⟨w3,A,n⟩:=HD.out.swap j' a HV.out v (by omega) (by omega);have HX:Hid _:=n;clear n;go_wp2
     go_ret2
     have e:=part_first_break lt d a b pivot Hi.out Hj.out Hdk.out q.out p.out (by omega);rw[e];exact⟨rfl,HD.out.fin HX.out (by rw[size_swp];exact v)⟩
end Go.Proofs
/- pdqsort_func, at elements of k cells, with a 'less' that may lay boxes of its own. -/
namespace Go.Proofs
open Go.Shelf Go.RowKit Go.Lib Go.Sort
variable {P:Program} {ρ:Ren} {α:Type} [Inhabited α] {enc:α->List Value} {k:Nat} {w0 w1 w W W':World} {blk off:Nat} {dk dj d:Array α} {lt:α->α->Bool} {g sf:Nat} {lb sb:Array Value} {T:TypeId}
theorem SWK.Fp(h:HoldsK enc k W blk off d)(a:∃n os,w=grow (Sort.ahead W n) os):SWK enc k W blk off d w:=by
 obtain⟨n,os,rfl⟩:=a;exact⟨n,os,by unfold sortWorldK;rw[putRowK_self enc k _ blk off d (holdsK_ahead enc k W n blk off d h)]⟩
set_option maxHeartbeats 12800000 in
set_option maxRecDepth 1000000 in
theorem aec(L:LaysGg.n14 P ρ)(E:SWO lt):∀(N a b limit:Nat) (d:Array α) (W:World),b-a<N->kF P enc k lt g lb sf sb blk off d W->a<=b->b<=d.size->limit<4611686018427387904->Below lt a b d ->
  Calls P (ρ.f 14) #[.agg #[.func (.func g) #[] lb,.func (.func sf) #[] sb],.int .i64 a,.int .i64 b,.int .i64 limit] W fun e w'=>e=.returned (.tuple #[])/\SWK enc k W blk off (pdq lt d a b limit true true) w':=by
 have mixed:=L.mixed;have t0:=L.t0;have a0:=L.a0;have z0:=L.z0;have v0:=L.v0;have t3:=L.t3;have a3:=L.a3;have z3:=L.z3;have v3:=L.v3;have t4:=L.t4;have a4:=L.a4;have z4:=L.z4;have v4:=L.v4;have t5:=L.t5;have a5:=L.a5;have z5:=L.z5;have v5:=L.v5;have t9:=L.t9;have a9:=L.a9;have z9:=L.z9;have v9:=L.v9;have t26:=L.t26;have a26:=L.a26;have z26:=L.z26;have v26:=L.v26;have t37:=L.t37;have a37:=L.a37;have z37:=L.z37;have v37:=L.v37;have t41:=L.t41;have a41:=L.a41;have z41:=L.z41;have v41:=L.v41;have t44:=L.t44;have a44:=L.a44;have z44:=L.z44;have v44:=L.v44;have t49:=L.t49;have a49:=L.a49;have z49:=L.z49;have v49:=L.v49;have t51:=L.t51;have a51:=L.a51;have z51:=L.z51;have v51:=L.v51;have t53:=L.t53;have a53:=L.a53;have z53:=L.z53;have v53:=L.v53;have t54:=L.t54;have a54:=L.a54;have z54:=L.z54;have v54:=L.v54;have t58:=L.t58;have a58:=L.a58;have z58:=L.z58;have v58:=L.v58;have t60:=L.t60;have a60:=L.a60;have z60:=L.z60;have v60:=L.v60;have t64:=L.t64;have a64:=L.a64;have z64:=L.z64;have v64:=L.v64;have t66:=L.t66;have a66:=L.a66;have z66:=L.z66;have v66:=L.v66;have t67:=L.t67;have a67:=L.a67;have z67:=L.z67;have v67:=L.v67;have u44:=run_underlying L.t44;have e26:∀args w,(callFunc (ρ.f 26) args).run P w=.ok (.enter (ρ.f 26) args) w:=enters_of L.f26 (by kernel_rfl) rfl;have e27:∀args w,(callFunc (ρ.f 27) args).run P w=.ok (.enter (ρ.f 27) args) w:=enters_of L.f27 (by kernel_rfl) rfl;have e28:∀args w,(callFunc (ρ.f 28) args).run P w=.ok (.enter (ρ.f 28) args) w:=enters_of L.f28 (by kernel_rfl) rfl;have e29:∀args w,(callFunc (ρ.f 29) args).run P w=.ok (.enter (ρ.f 29) args) w:=enters_of L.f29 (by kernel_rfl) rfl;have e30:∀args w,(callFunc (ρ.f 30) args).run P w=.ok (.enter (ρ.f 30) args) w:=enters_of L.f30 (by kernel_rfl) rfl;have e31:∀args w,(callFunc (ρ.f 31) args).run P w=.ok (.enter (ρ.f 31) args) w:=enters_of L.f31 (by kernel_rfl) rfl;have e32:∀args w,(callFunc (ρ.f 32) args).run P w=.ok (.enter (ρ.f 32) args) w:=enters_of L.f32 (by kernel_rfl) rfl;have e33:∀args w,(callFunc (ρ.f 33) args).run P w=.ok (.enter (ρ.f 33) args) w:=enters_of L.f33 (by kernel_rfl) rfl;have e14:∀args w,(callFunc (ρ.f 14) args).run P w=.ok (.enter (ρ.f 14) args) w:=enters_of L.f14 (by kernel_rfl) rfl;intro N;induction N with
 | zero=>intro _ _ _ _ _ h;exact absurd h (Nat.not_lt_zero _)
 | succ N ih=>
  intro a b limit d W hN h hab hb hlimit hBel0;have eg:=h.eg;have hsz:=h.sz;obtain⟨S,hD,hS⟩:=h.bx (ρ.t 44);have HD:Hid _:=hD;have HSA:Hid (∀ {D:Array α} {X X':World},S D X->D.size=d.size->(∃n os,X'=grow (Sort.ahead X n) os)->S D X'):=fun {D X X'} j F l=>hD.comp j (SWK.Fp (hD.at' j F).H l) rfl
  have H0:Hid _:=hS;have IH:Hid _:=ih;clear hD hS h ih;go_enter L.f14,BodyGg.n14_ntmps ρ
  go_wp2
  go_loopg [1,2,3,8,9] (b-a) (fun kx G s2 u s8 s9 wr=>∃(a' b' lim:Nat) (wb wp:Bool) (dk:Array α),G=.int .i64 a'/\s2=.int .i64 b'/\u=.int .i64 lim/\s8=.bool wb/\s9=.bool wp /\
   a'<=b'/\b'<=d.size/\b'-a'<=kx/\kx<=b-a/\lim<=limit/\dk.size=d.size/\Below lt a' b' dk/\Hid (S dk wr)/\Aside (pdq lt dk a' b' lim wb wp=pdq lt d a b limit true true))
  case atStart=>exact⟨a,b,limit,true,true,d,rfl,rfl,rfl,rfl,rfl,hab,hb,ar _,ar _,ar _,rfl,hBel0,H0,rfl⟩
  case round=>
   clear H0
   obtain⟨a',b',lim,wb,wp,dk,rfl,rfl,rfl,rfl,rfl,m,hb',hkx,hkN,hlim,i,hBel,HW,A⟩:=hrel
   have x0:=HD.out.c0 HW.out
   have x1:=HD.out.c1 HW.out
   by_cases s:b'-a'<=12
   ·have h12z:(b':Int)-(a':Int)<=12:=by omega
    have hc:=by
     have j:=HD.out.at' HW.out i;exact Qh (P:=P) (ρ:=ρ) { L with } j.hk lt g lb sf sb a' b' dk j.eg j.less j.swap j.H j.b m (by omega) j.sz
    go_wp2_with (go_at_fn (ρ.f 26);refine hc.mono ?_;rintro e w1 ⟨rfl,o⟩;have M:Hid _:=o;clear o)
    (try simp only[Exit.inBlock,Exit.then]);refine bodyPost_ret (results_none rfl _ _ _) rfl ?_;refine⟨rfl,?_⟩;rw[<- A.out,pdq_small s];have F:=(insertionSort_holds E dk a' b' m (by omega)).1.1;exact HD.out.fin (HD.out.comp HW.out M.out F) (by rw[F];exact i)
   ·have h12z:¬((b':Int)-(a':Int)<=12):=by omega
    by_cases v:lim=0
    ·subst v;have hc:=Uz (P:=P) (ρ:=ρ) { L with } a' b' (HD.out.at' HW.out i) m (by omega);go_wp2_with (go_at_fn (ρ.f 27);refine hc.mono ?_;rintro e w1 ⟨rfl,o⟩;have M:Hid _:=o;clear o)
     (try simp only[Exit.inBlock,Exit.then]);refine bodyPost_ret (results_none rfl _ _ _) rfl ?_;refine⟨rfl,?_⟩;rw[<- A.out,pdq_heap s rfl];have F:=(heapSort_holds E dk a' b' m (by omega)).1.1;exact HD.out.fin (HD.out.comp HW.out M.out F) (by rw[F];exact i)
    ·have hl0z:¬((lim:Int)=0):=by omega
     obtain⟨G,B1,hc1,s2,B2,p,u,B3⟩:=rd_facts (lt:=lt) (limit:=lim) (wb:=wb) (wp:=wp) E partialInsertionSort_holds reverseRange_holds (show a'<b' by omega) (show b'<=dk.size by omega) hBel;go_upto_if 35 with fail
     go_cut [3]from 19 (fun u wc=>u=.int .i64 (rd lt dk a' b' lim wb wp).lim/\Hid (S (rd lt dk a' b' lim wb wp).d1 wc))
     case first=>
      cases wb
      ·have hc:=by
        have j:=HD.out.at' HW.out i;exact Any.breakPatterns_func_cells_w (P:=P) (ρ:=ρ) { L with } enc k j.hk (.func g) #[] lb sf sb blk off a' b' dk _ j.swap j.H j.b m (by omega) j.sz
       go_wp2_with (go_at_fn (ρ.f 28);refine hc.mono ?_;rintro e w1 ⟨rfl,o⟩;have M:Hid _:=o;clear o)
       go_meet
       case rel=>
        refine⟨?_,HD.out.comp HW.out M.out G⟩
        show Value.int .i64 ((lim:Int)-1)=Value.int .i64 ((lim-1:Nat):Int)
        congr 1
        omega
      ·go_wp2_with fail
       go_meet
       case rel=>exact⟨rfl,HW⟩
     case rest=>
      obtain⟨rfl,HW1⟩:=hcut
      clear x0 x1 HW
      have y0:=HD.out.c0 HW1.out
      have y1:=HD.out.c1 HW1.out
      have hc17:∀wc,S (rd lt dk a' b' lim wb wp).d1 wc->Calls P (ρ.f 29) #[.agg #[.func (.func g) #[] lb,.func (.func sf) #[] sb],.int .i64 a',.int .i64 b'] wc fun e w'=>e=.returned (.tuple #[.int .i64 (rd lt dk a' b' lim wb wp).c.1,.int .i64 (hintCode (rd lt dk a' b' lim wb wp).c.2)])/\∃n os,w'=grow (Sort.ahead wc n) os:=fun wc hw=>
       JO (P:=P) (ρ:=ρ) { L with } a' b' (HD.out.at' hw (G.trans i)) (by omega) (show b'<=(rd lt dk a' b' lim wb wp).d1.size by omega)
      replace hc17:=hc17 _ HW1.out
      go_upto_if 50 with (go_at_fn (ρ.f 29);refine hc17.mono ?_;rintro e w2 ⟨rfl,O⟩;have HW2:Hid _:=HSA.out HW1.out (G.trans i) O;clear O)
      clear y0 y1 HW1
      have kz0:=HD.out.c0 HW2.out
      have kz1:=HD.out.c1 HW2.out
      go_cut [11,12]from 19 (fun s11 I wc=>s11=.int .i64 (rd lt dk a' b' lim wb wp).pivot/\I=.int .i64 (hintCode (rd lt dk a' b' lim wb wp).hint)/\Hid (S (rd lt dk a' b' lim wb wp).d2 wc))
      case first=>
       by_cases hh:(rd lt dk a' b' lim wb wp).c.2=.decreasing
       ·have hcode:hintCode (rd lt dk a' b' lim wb wp).c.2=2:=by rw[hh];rfl
        obtain⟨e2,epv,eht⟩:=rd_dec hh;have hc18:=by
         have j:=HD.out.at' HW2.out (G.trans i);exact Any.reverseRange_func_cells_w (P:=P) (ρ:=ρ) { L with } enc k j.hk (.func g) #[] lb sf sb blk off a' b' (rd lt dk a' b' lim wb wp).d1 _ j.swap j.H j.b m (by omega) j.sz
        go_wp2_with (go_at_fn (ρ.f 30);refine hc18.mono ?_;rintro e w3 ⟨rfl,Q⟩;have H3:Hid _:=Q;clear Q)
        go_meet
        case rel=>
         refine⟨?_,by rw[eht];rfl,?_⟩
         ·rw[epv];congr 1;omega
         ·show S _ _
          rw[e2];exact HD.out.comp HW2.out H3.out (by rw[<- e2,s2,G])
       ·have hcode:¬(hintCode (rd lt dk a' b' lim wb wp).c.2=2):=fun h=>hh (hintCode_two h)
        obtain⟨e2,epv,eht⟩:=rd_not hh;go_wp2_with fail
        go_meet
        case rel=>exact⟨by rw[epv],by rw[eht],by rw[e2];exact HW2⟩
      case rest=>
       obtain⟨rfl,rfl,HW3⟩:=hcut
       clear kz0 kz1 HW2
       have v0':=HD.out.c0 HW3.out
       have v1':=HD.out.c1 HW3.out
       go_upto_region 16 with fail
       go_cut [12,68]from 19 (fun I s68 wx=>I=.int .i64 (hintCode (rd lt dk a' b' lim wb wp).hint)/\s68=.bool (wb&&wp&&decide ((rd lt dk a' b' lim wb wp).hint=.increasing))/\wx=wc)
       case first=>
        cases wb<;>cases wp<;>cases J:(rd lt dk a' b' lim _ _).hint<;>
         (have hcode3:=congrArg hintCode J
          simp only[hintCode]at hcode3
          go_wp2_with fail
          go_meet
          exact⟨by simp[J,hintCode],by simp[J,hintCode],rfl⟩)
       case rest=>
        obtain⟨rfl,rfl,rfl⟩:=hcut
        go_upto_if 68 with fail
        go_cut []from 19 (fun wx=>(rd lt dk a' b' lim wb wp).pi.2=false/\Hid (S (rd lt dk a' b' lim wb wp).pi.1 wx))
        case first=>
         cases R:(wb&&wp&&decide ((rd lt dk a' b' lim wb wp).hint=.increasing))
         ·have epi:=rd_pi_no R;go_wp2_with fail
          go_meet
          case rel=>exact⟨by rw[epi],by rw[epi];exact HW3⟩
         ·have epi:=rd_pi_yes R;have hc19:=Aa (P:=P) (ρ:=ρ) { L with } a' b' (HD.out.at' HW3.out (s2.trans i)) (by omega) (by omega);rw[<- epi]at hc19;go_wp2_with (go_at_fn (ρ.f 31);refine hc19.mono ?_;rintro e w4 ⟨rfl,T⟩;have H4:Hid _:=T;clear T)
          all_goals first
           | (have q:(rd lt dk a' b' lim wb wp).pi.2=false:=by rw[epi];assumption
              go_meet
              exact⟨q,HD.out.comp HW3.out H4.out (by rw[u,s2])⟩)
           | (have q:(rd lt dk a' b' lim wb wp).pi.2=true:=by rw[epi];assumption
              (try simp only[Exit.inBlock,Exit.then]);refine bodyPost_ret (results_none rfl _ _ _) rfl ?_
              refine⟨rfl,?_⟩
              rw[<- A.out,pdq_done s v q]
              exact HD.out.fin (HD.out.comp HW3.out H4.out (by rw[u,s2])) (u.trans i))
        case rest=>
         obtain⟨q,HW5⟩:=hcut
         clear v0' v1' HW3
         have t0':=HD.out.c0 HW5.out
         have t1':=HD.out.c1 HW5.out
         go_upto_region 18 with fail
         go_cut [83]from 19 (fun s83 wx=>s83=.bool (decide (a'>0)&&!lt (rd lt dk a' b' lim wb wp).pi.1[a'-1]! (rd lt dk a' b' lim wb wp).pi.1[(rd lt dk a' b' lim wb wp).pivot]!)/\Hid (S (rd lt dk a' b' lim wb wp).pi.1 wx))
         case first=>
          rcases Nat.eq_zero_or_pos a' with K | K
          ·have ha0z:decide ((a':Int)>0)=false:=ac (by omega);go_wp2_with fail
           go_meet
           case rel=>exact⟨by simp[K],HW5⟩
          ·have ha0z:(a':Int)>0:=by omega
           have hl:=HD.out.less (a'-1) (rd lt dk a' b' lim wb wp).pivot HW5.out (u.trans i) (by omega) (by omega);rw[show ((a'-1:Nat):Int)=(a':Int)-1 by omega]at hl;cases U:lt (rd lt dk a' b' lim wb wp).pi.1[a'-1]! (rd lt dk a' b' lim wb wp).pi.1[(rd lt dk a' b' lim wb wp).pivot]!<;>
            (rw[U]at hl
             go_wp2_with (go_at_fn g;refine hl.mono ?_;rintro e w' ⟨rfl,V⟩;have H6:Hid _:=V;clear V)
             go_meet
             exact⟨by simp[K,U],H6⟩)
         case rest=>
          obtain⟨rfl,HW6⟩:=hcut
          clear t0' t1' HW5
          have q0:=HD.out.c0 HW6.out
          have q1:=HD.out.c1 HW6.out
          cases z:(decide (a'>0)&&!lt (rd lt dk a' b' lim wb wp).pi.1[a'-1]! (rd lt dk a' b' lim wb wp).pi.1[(rd lt dk a' b' lim wb wp).pivot]!)
          ·obtain⟨mid,ap,r,l⟩:∃mid ap r,partition lt (rd lt dk a' b' lim wb wp).pi.1 a' b' (rd lt dk a' b' lim wb wp).pivot=(mid,ap,r):=⟨(partition lt (rd lt dk a' b' lim wb wp).pi.1 a' b' (rd lt dk a' b' lim wb wp).pivot).1,(partition lt (rd lt dk a' b' lim wb wp).pi.1 a' b' (rd lt dk a' b' lim wb wp).pivot).2.1,(partition lt (rd lt dk a' b' lim wb wp).pi.1 a' b' (rd lt dk a' b' lim wb wp).pivot).2.2,rfl⟩;obtain⟨r1,Y,Z,r4,r5,r6,r7⟩:=round_part E (partition_holds lt) p.1 p.2 (show b'<=(rd lt dk a' b' lim wb wp).pi.1.size by omega) B3 l;have hc22:=Qg (P:=P) (ρ:=ρ) { L with } a' b' (rd lt dk a' b' lim wb wp).pivot (HD.out.at' HW6.out (u.trans i)) p.1 p.2 (by omega);rw[l]at hc22;have X:Aside (partition lt (rd lt dk a' b' lim wb wp).pi.1 a' b' (rd lt dk a' b' lim wb wp).pivot=(mid,ap,r)):=l;clear l;go_upto_if 109 with (go_at_fn (ρ.f 33);refine hc22.mono ?_;rintro e w7 ⟨rfl,x⟩;have HW7:Hid _:=HD.out.comp HW6.out x Z;clear x)
           have l:=X.out;have B:r.size=d.size:=Z.trans (u.trans i);clear q0 q1 HW6;have p0:=HD.out.c0 HW7.out;have p1:=HD.out.c1 HW7.out;by_cases h4:mid-a'<b'-mid
           ·have h4z:(mid:Int)-(a':Int)<(b':Int)-(mid:Int):=by omega
            have C:=IH.out a' mid (rd lt dk a' b' lim wb wp).lim r _ (by omega) (HD.out.at' HW7.out B) (by omega) (by omega) (Nat.lt_of_le_of_lt (Nat.le_trans rd_lim_le hlim) hlimit) r4;obtain⟨pL,sL⟩:=pdq_sorts lt E r a' mid (rd lt dk a' b' lim wb wp).lim true true (by omega) (by omega) r4;go_wp2_with (go_at_fn (ρ.f 14);refine C.mono ?_;rintro e w8 ⟨rfl,y⟩;have H8:Hid _:=y;clear y)
            go_roundg (b'-(mid+1))
            case measure=>omega
            case rel=>
             refine⟨mid+1,b',(rd lt dk a' b' lim wb wp).lim,decide (mid-a'>=(b'-a') / 8),ap,pdq lt r a' mid (rd lt dk a' b' lim wb wp).lim true true,by simp,rfl,rfl,?_,rfl,by omega,by omega,ar _,by omega,Nat.le_trans rd_lim_le hlim,by rw[pL.1,B],(r6 _ pL sL).1,HD.out.comp HW7.out H8.out pL.1,?_⟩
             ·exact congrArg Value.bool (eighth (by omega) (by omega))
             ·show _=_
              rw[<- A.out,pdq_left s v q z (by rw[l];exact⟨r1,Y⟩) (by rw[l];exact h4),l]
           ·have h4z:¬((mid:Int)-(a':Int)<(b':Int)-(mid:Int)):=by omega
            have C:=IH.out (mid+1) b' (rd lt dk a' b' lim wb wp).lim r _ (by omega) (HD.out.at' HW7.out B) (by omega) (by omega) (Nat.lt_of_le_of_lt (Nat.le_trans rd_lim_le hlim) hlimit) r5;rw[show ((mid+1:Nat):Int)=(mid:Int)+1 by omega]at C;obtain⟨pL,sL⟩:=pdq_sorts lt E r (mid+1) b' (rd lt dk a' b' lim wb wp).lim true true (by omega) (by omega) r5;go_wp2_with (go_at_fn (ρ.f 14);refine C.mono ?_;rintro e w8 ⟨rfl,y⟩;have H8:Hid _:=y;clear y)
            go_roundg (mid-a')
            case measure=>omega
            case rel=>
             refine⟨a',mid,(rd lt dk a' b' lim wb wp).lim,decide (b'-mid>=(b'-a') / 8),ap,pdq lt r (mid+1) b' (rd lt dk a' b' lim wb wp).lim true true,rfl,rfl,rfl,?_,rfl,by omega,by omega,ar _,by omega,Nat.le_trans rd_lim_le hlim,by rw[pL.1,B],(r7 _ pL sL).1,HD.out.comp HW7.out H8.out pL.1,?_⟩
             ·exact congrArg Value.bool (eighth (by omega) (by omega))
             ·show _=_
              rw[<- A.out,pdq_right s v q z (by rw[l];exact⟨r1,Y⟩) (by rw[l];exact h4),l]
          ·have h87':=z;simp only[Bool.and_eq_true,decide_eq_true_eq,Bool.not_eq_true']at h87';obtain⟨mid,r,l⟩:∃mid r,partitionEqual lt (rd lt dk a' b' lim wb wp).pi.1 a' b' (rd lt dk a' b' lim wb wp).pivot=(mid,r):=⟨(partitionEqual lt (rd lt dk a' b' lim wb wp).pi.1 a' b' (rd lt dk a' b' lim wb wp).pivot).1,(partitionEqual lt (rd lt dk a' b' lim wb wp).pi.1 a' b' (rd lt dk a' b' lim wb wp).pivot).2,rfl⟩;obtain⟨r1,Y,Z,r4,_⟩:=round_eq E (partitionEqual_holds lt) h87'.1 p.1 p.2 (show b'<=(rd lt dk a' b' lim wb wp).pi.1.size by omega) B3 h87'.2 l;have hc21:=DR (P:=P) (ρ:=ρ) { L with } a' b' (rd lt dk a' b' lim wb wp).pivot (HD.out.at' HW6.out (u.trans i)) p.1 p.2 (by omega);rw[l]at hc21;have X:Aside (partitionEqual lt (rd lt dk a' b' lim wb wp).pi.1 a' b' (rd lt dk a' b' lim wb wp).pivot=(mid,r)):=l;clear l;go_wp2_with (go_at_fn (ρ.f 32);refine hc21.mono ?_;rintro e w7 ⟨rfl,x⟩;have H7:Hid _:=x;clear x)
           go_roundg (b'-mid)
           case measure=>omega
           case rel=>
            have l:=X.out
            exact⟨mid,b',(rd lt dk a' b' lim wb wp).lim,wb,wp,r,rfl,rfl,rfl,rfl,rfl,Y,hb',ar _,by omega,Nat.le_trans rd_lim_le hlim,by rw[Z,u,i],r4,HD.out.comp HW6.out H7.out Z,(show _=_ from by rw[<- A.out,pdq_eq s v q z (by rw[l];exact⟨r1,Y⟩),l])⟩
end Go.Proofs
/- sort.Slice at elements of k cells, with a 'less' that may lay boxes of its own: a permutation, in order. -/
namespace Go.Proofs
open Go.Shelf Go.RowKit Go.Lib Go.Sort
variable {P:Program} {ρ:Ren} {α:Type} [Inhabited α]
theorem ab4(L:LaysGg.n6 P ρ)(t e:TypeId)(i ie:TypeInfo)(hi:P.info? t=some i)(hd:i.desc=.slice e)(hpk:P.packed t=false)(hie:P.info? e=some ie)(ke:Nat)(hke:∀w,(Extern.Rtype.kind e).run P w=.ok ke w)
  (enc:α->List Value) (k:Nat) (hk:∀x,(enc x).length=k) (hs1:ie.size=k) (hagg:∀w,(isAgg e).run P w=.ok true w) (h1:∀x,∀v∈enc x,v.oneCell'=true) (lt:α->α->Bool) (hO:SWO lt) (g:Nat) (lb:Array Value)
  (eg:∀args w,(callFunc g args).run P w=.ok (.enter g args) w) (blk off c:Nat) (d:Array α) (h2:2<=d.size) (hsz:d.size<4611686018427387904)
  (f : Nat) (hf : P.funcs.findIdx? (·.name == "internal/reflectlite" ++ ".Swapper$" ++ toString (swapperK d.size ie ke)) = some f)
  (gS:Bool) (hx:∀args W,(callFunc f args).run P W=((Extern.ReflectliteSwapper.swap gS args).run P W).andThen fun v w'=>.ok (.value v) w')
  (w:World) (hless:jr P g lb enc k lt blk off d.size w) (hH:HoldsK enc k w blk off d) (hblk:blk<w.heap.size) :
  Calls P (ρ.f 6) #[.iface t (.slice (some ⟨blk,off,none⟩) d.size c),.func (.func g) #[] lb] w fun e w'=>
   e=.returned (.tuple #[])/\∃d',PermIn 0 d.size d d'/\SortedIn lt 0 d.size d'/\SWK enc k w blk off d' w':=by
 refine Any.sort_Slice_of_pdq L t e i ie hi hd hpk hie ke hke _ d.size c hsz f hf (.func g) #[] lb w _ ?_;have hB:sliceBound P e ie ke (some ⟨blk,off,none⟩) d.size c = #[.slice (some ⟨blk,off,none⟩) d.size c,typeHandle P e]:=by
  unfold sliceBound;rw[if_neg (swapperK_gt _ _ _ h2)]
 have hW:sliceWorld P ρ t (some ⟨blk,off,none⟩) d.size c w=grow w #[.cells #[.slice (some ⟨blk,off,none⟩) d.size c] t,.cells #[.pointer (some ⟨P.globals.size,t,none⟩),.pointer (some ⟨w.heap.size,0,none⟩),.int .u64 151] (ρ.t 35)]:=by
  unfold sliceWorld;rw[alloc_eq_grow,alloc_eq_grow,grow_grow];rfl
 generalize (#[.cells #[.slice (some ⟨blk,off,none⟩) d.size c] t,.cells #[.pointer (some ⟨P.globals.size,t,none⟩),.pointer (some ⟨w.heap.size,0,none⟩),.int .u64 151] (ρ.t 35)]:Array Obj)=os0 at hW;rw[hB,hW];have hlim:Lib.bitLen d.size<4611686018427387904:=Nat.lt_of_le_of_lt (Lib.bitLen_le d.size 62 (by omega) (by omega)) (by omega);have h:kF P enc k lt g lb f #[.slice (some ⟨blk,off,none⟩) d.size c,typeHandle P e] blk off d (grow w os0):=
  ⟨hk,eg,hless.grow hblk os0,swapSwapsK_of_literal gS f hx e ie hie enc k hk hs1 hagg h1 blk off d.size c,holdsK_grow enc k w _ blk off d hblk hH,by rw[size_grow];omega,hsz⟩
 refine (aec (P:=P) (ρ:=ρ) { L with } hO (d.size+1) 0 d.size (Lib.bitLen d.size) d (grow w os0) (by omega) h (Nat.zero_le _) (ar _) hlim (Or.inl rfl)).mono ?_;rintro e w' ⟨rfl,hw⟩;obtain⟨p,s⟩:=pdq_sorts lt hO d 0 d.size (Lib.bitLen d.size) true true (Nat.zero_le _) (ar _) (Or.inl rfl);exact⟨rfl,_,p,s,SWK.comp (SWK.Fp hH ⟨0,os0,by rw[ahead_zero]⟩) hblk hw p.1⟩
