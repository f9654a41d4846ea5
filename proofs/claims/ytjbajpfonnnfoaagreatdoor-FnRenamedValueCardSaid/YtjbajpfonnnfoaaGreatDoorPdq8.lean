import Derived.Test.YtjbajpfonnnfoaaGreatDoorPdq2
import Derived.Shelf.SlSortFuncK.BreakPatternsK
import Derived.Sort.Walk13
import Derived.Sort.AssemblyPlain
import Derived.Shelf.SlSortFuncK.WholeK
import Derived.Test.YtjbajpfonnnfoaaGreatDoorRenX
import Derived.Test.YtjbajpfonnnfoaaGreatDoorLink1
import Derived.StillTailTactics
import Derived.Shelf.GgSortFunc.Tiny
import Derived.Test.YtjbajpfonnnfoaaGreatDoorMk
import Derived.Maps.OwnOps
import Derived.Maps.OwnSet
import Derived.Maps.AppendAt
import Derived.Maps.Views
import Derived.Deep.AppendLies
import Derived.Deep.AppendSrc
import Derived.DeepKeys4
import Derived.MapViews
set_option linter.unusedSimpArgs false
set_option linter.unusedVariables false
/- pdqsort_func, at elements of k cells, with a 'less' that may lay boxes of its own. -/
namespace Go.Proofs
open Go.Shelf Go.RowKit Go.Lib Go.Sort
variable {P:Program} {ρ:Ren} {α:Type} [Inhabited α] {enc:α->List Value} {k:Nat} {w0 w1 w W W':World} {blk off:Nat} {dk dj d:Array α} {lt:α->α->Bool} {g sf:Nat} {lb sb:Array Value} {T:TypeId}
theorem SWK.FO(h:HoldsK enc k W blk off d)(a:∃n os,w=grow (Sort.ahead W n) os):SWK enc k W blk off d w:=by
 obtain⟨n,os,rfl⟩:=a;exact⟨n,os,by unfold sortWorldK;rw[putRowK_self enc k _ blk off d (holdsK_ahead enc k W n blk off d h)]⟩
set_option maxHeartbeats 12800000 in
set_option maxRecDepth 1000000 in
theorem aeR(L:LaysGg.n14 P ρ)(E:SWO lt):∀(N a b limit:Nat) (d:Array α) (W:World),b-a<N->kF P enc k lt g lb sf sb blk off d W->a<=b->b<=d.size->limit<4611686018427387904->Below lt a b d ->
  Calls P (ρ.f 14) #[.agg #[.func (.func g) #[] lb,.func (.func sf) #[] sb],.int .i64 a,.int .i64 b,.int .i64 limit] W λe w'=>e=.returned (.tuple #[])/\SWK enc k W blk off (pdq lt d a b limit true true) w':=by
 have mixed:=L.mixed;have t0:=L.t0;have a0:=L.a0;have z0:=L.z0;have v0:=L.v0;have t3:=L.t3;have a3:=L.a3;have z3:=L.z3;have v3:=L.v3;have t4:=L.t4;have a4:=L.a4;have z4:=L.z4;have v4:=L.v4;have t5:=L.t5;have a5:=L.a5;have z5:=L.z5;have v5:=L.v5;have t9:=L.t9;have a9:=L.a9;have z9:=L.z9;have v9:=L.v9;have t26:=L.t26;have a26:=L.a26;have z26:=L.z26;have v26:=L.v26;have t37:=L.t37;have a37:=L.a37;have z37:=L.z37;have v37:=L.v37;have t41:=L.t41;have a41:=L.a41;have z41:=L.z41;have v41:=L.v41;have t44:=L.t44;have a44:=L.a44;have z44:=L.z44;have v44:=L.v44;have t49:=L.t49;have a49:=L.a49;have z49:=L.z49;have v49:=L.v49;have t51:=L.t51;have a51:=L.a51;have z51:=L.z51;have v51:=L.v51;have t53:=L.t53;have a53:=L.a53;have z53:=L.z53;have v53:=L.v53;have t54:=L.t54;have a54:=L.a54;have z54:=L.z54;have v54:=L.v54;have t58:=L.t58;have a58:=L.a58;have z58:=L.z58;have v58:=L.v58;have t60:=L.t60;have a60:=L.a60;have z60:=L.z60;have v60:=L.v60;have t64:=L.t64;have a64:=L.a64;have z64:=L.z64;have v64:=L.v64;have t66:=L.t66;have a66:=L.a66;have z66:=L.z66;have v66:=L.v66;have t67:=L.t67;have a67:=L.a67;have z67:=L.z67;have v67:=L.v67;have u44:=run_underlying L.t44;have e26:∀args w,(callFunc (ρ.f 26) args).run P w=.ok (.enter (ρ.f 26) args) w:=enters_of L.f26 (by kernel_rfl) rfl;have e27:∀args w,(callFunc (ρ.f 27) args).run P w=.ok (.enter (ρ.f 27) args) w:=enters_of L.f27 (by kernel_rfl) rfl;have e28:∀args w,(callFunc (ρ.f 28) args).run P w=.ok (.enter (ρ.f 28) args) w:=enters_of L.f28 (by kernel_rfl) rfl;have e29:∀args w,(callFunc (ρ.f 29) args).run P w=.ok (.enter (ρ.f 29) args) w:=enters_of L.f29 (by kernel_rfl) rfl;have e30:∀args w,(callFunc (ρ.f 30) args).run P w=.ok (.enter (ρ.f 30) args) w:=enters_of L.f30 (by kernel_rfl) rfl;have e31:∀args w,(callFunc (ρ.f 31) args).run P w=.ok (.enter (ρ.f 31) args) w:=enters_of L.f31 (by kernel_rfl) rfl;have e32:∀args w,(callFunc (ρ.f 32) args).run P w=.ok (.enter (ρ.f 32) args) w:=enters_of L.f32 (by kernel_rfl) rfl;have e33:∀args w,(callFunc (ρ.f 33) args).run P w=.ok (.enter (ρ.f 33) args) w:=enters_of L.f33 (by kernel_rfl) rfl;have e14:∀args w,(callFunc (ρ.f 14) args).run P w=.ok (.enter (ρ.f 14) args) w:=enters_of L.f14 (by kernel_rfl) rfl;intro N;induction N with
 | zero=>intro _ _ _ _ _ h;exact absurd h (aml _)
 | succ N ih=>
  intro a b limit d W hN h hab hb hlimit hBel0;have eg:=h.eg;have hsz:=h.sz;obtain⟨S,hD,hS⟩:=h.bx (ρ.t 44);have HD:Hid _:=hD;have HSA:Hid (∀ {D:Array α} {X X':World},S D X->D.size=d.size->(∃n os,X'=grow (Sort.ahead X n) os)->S D X'):=λ{D X X'} j F l=>hD.comp j (SWK.FO (hD.at' j F).H l) rfl
  have H0:Hid _:=hS;have IH:Hid _:=ih;clear hD hS h ih;go_enter L.f14,BodyGg.n14_ntmps ρ
  go_wp2
  go_loopg [1,2,3,8,9] (b-a) (λkx G s2 u s8 s9 wr=>∃(a' b' lim:Nat) (wb wp:Bool) (dk:Array α),G=.int .i64 a'/\s2=.int .i64 b'/\u=.int .i64 lim/\s8=.bool wb/\s9=.bool wp /\
   a'<=b'/\b'<=d.size/\b'-a'<=kx/\kx<=b-a/\lim<=limit/\dk.size=d.size/\Below lt a' b' dk/\Hid (S dk wr)/\Aside (pdq lt dk a' b' lim wb wp=pdq lt d a b limit true true))
  case atStart=>exact⟨a,b,limit,true,true,d,rfl,rfl,rfl,rfl,rfl,hab,hb,aD _,aD _,aD _,rfl,hBel0,H0,rfl⟩
  case round=>
   clear H0
   obtain⟨a',b',lim,wb,wp,dk,rfl,rfl,rfl,rfl,rfl,m,hb',hkx,hkN,hlim,i,hBel,HW,A⟩:=hrel
   have x0:=HD.out.c0 HW.out
   have x1:=HD.out.c1 HW.out
   by_cases s:b'-a'<=12
   ·have h12z:(b':Int)-(a':Int)<=12:=by omega
    have hc:=by
     have j:=HD.out.at' HW.out i;exact Qu (P:=P) (ρ:=ρ) { L with } j.hk lt g lb sf sb a' b' dk j.eg j.less j.swap j.H j.b m (by omega) j.sz
    go_wp2_with (go_at_fn (ρ.f 26);refine hc.mono ?_;rintro e w1 ⟨rfl,o⟩;have M:Hid _:=o;clear o)
    (try simp only[Exit.inBlock,Exit.then]);refine bodyPost_ret (results_none rfl _ _ _) rfl ?_;refine⟨rfl,?_⟩;rw[<- A.out,pdq_small s];have F:=(insertionSort_holds E dk a' b' m (by omega)).1.1;exact HD.out.fin (HD.out.comp HW.out M.out F) (by rw[F];exact i)
   ·have h12z:¬((b':Int)-(a':Int)<=12):=by omega
    by_cases v:lim=0
    ·subst v;have hc:=UU (P:=P) (ρ:=ρ) { L with } a' b' (HD.out.at' HW.out i) m (by omega);go_wp2_with (go_at_fn (ρ.f 27);refine hc.mono ?_;rintro e w1 ⟨rfl,o⟩;have M:Hid _:=o;clear o)
     (try simp only[Exit.inBlock,Exit.then]);refine bodyPost_ret (results_none rfl _ _ _) rfl ?_;refine⟨rfl,?_⟩;rw[<- A.out,pdq_heap s rfl];have F:=(heapSort_holds E dk a' b' m (by omega)).1.1;exact HD.out.fin (HD.out.comp HW.out M.out F) (by rw[F];exact i)
    ·have hl0z:¬((lim:Int)=0):=by omega
     obtain⟨G,B1,hc1,s2,B2,p,u,B3⟩:=rd_facts (lt:=lt) (limit:=lim) (wb:=wb) (wp:=wp) E partialInsertionSort_holds reverseRange_holds (show a'<b' by omega) (show b'<=dk.size by omega) hBel;go_upto_if 35 with fail
     go_cut [3]from 19 (λu wc=>u=.int .i64 (rd lt dk a' b' lim wb wp).lim/\Hid (S (rd lt dk a' b' lim wb wp).d1 wc))
     case first=>
      cases wb
      ·have hc:=by
        have j:=HD.out.at' HW.out i;exact Any.breakPatterns_func_cells_w (P:=P) (ρ:=ρ) { L with } enc k j.hk (.func g) #[] lb sf sb blk off a' b' dk _ j.swap j.H j.b m (by omega) j.sz
       go_wp2_with (go_at_fn (ρ.f 28);refine hc.mono ?_;rintro e w1 ⟨rfl,o⟩;have M:Hid _:=o;clear o)
       go_meet
       case rel=>
        refine⟨?_,HD.out.comp HW.out M.out G⟩
        show Value.int .i64 ((lim:Int)-1)=Value.int .i64 ((lim-1:Nat):Int)
        congr 1
        omega
      ·go_wp2_with fail
       go_meet
       case rel=>exact⟨rfl,HW⟩
     case rest=>
      obtain⟨rfl,HW1⟩:=hcut
      clear x0 x1 HW
      have y0:=HD.out.c0 HW1.out
      have y1:=HD.out.c1 HW1.out
      have hc17:∀wc,S (rd lt dk a' b' lim wb wp).d1 wc->Calls P (ρ.f 29) #[.agg #[.func (.func g) #[] lb,.func (.func sf) #[] sb],.int .i64 a',.int .i64 b'] wc λe w'=>e=.returned (.tuple #[.int .i64 (rd lt dk a' b' lim wb wp).c.1,.int .i64 (hintCode (rd lt dk a' b' lim wb wp).c.2)])/\∃n os,w'=grow (Sort.ahead wc n) os:=λwc hw=>
       JW (P:=P) (ρ:=ρ) { L with } a' b' (HD.out.at' hw (G.trans i)) (by omega) (show b'<=(rd lt dk a' b' lim wb wp).d1.size by omega)
      replace hc17:=hc17 _ HW1.out
      go_upto_if 50 with (go_at_fn (ρ.f 29);refine hc17.mono ?_;rintro e w2 ⟨rfl,O⟩;have HW2:Hid _:=HSA.out HW1.out (G.trans i) O;clear O)
      clear y0 y1 HW1
      have kz0:=HD.out.c0 HW2.out
      have kz1:=HD.out.c1 HW2.out
      go_cut [11,12]from 19 (λs11 I wc=>s11=.int .i64 (rd lt dk a' b' lim wb wp).pivot/\I=.int .i64 (hintCode (rd lt dk a' b' lim wb wp).hint)/\Hid (S (rd lt dk a' b' lim wb wp).d2 wc))
      case first=>
       by_cases hh:(rd lt dk a' b' lim wb wp).c.2=.decreasing
       ·have hcode:hintCode (rd lt dk a' b' lim wb wp).c.2=2:=by rw[hh];rfl
        obtain⟨e2,epv,eht⟩:=rd_dec hh;have hc18:=by
         have j:=HD.out.at' HW2.out (G.trans i);exact Any.reverseRange_func_cells_w (P:=P) (ρ:=ρ) { L with } enc k j.hk (.func g) #[] lb sf sb blk off a' b' (rd lt dk a' b' lim wb wp).d1 _ j.swap j.H j.b m (by omega) j.sz
        go_wp2_with (go_at_fn (ρ.f 30);refine hc18.mono ?_;rintro e w3 ⟨rfl,Q⟩;have H3:Hid _:=Q;clear Q)
        go_meet
        case rel=>
         refine⟨?_,by rw[eht];rfl,?_⟩
         ·rw[epv];congr 1;omega
         ·show S _ _
          rw[e2];exact HD.out.comp HW2.out H3.out (by rw[<- e2,s2,G])
       ·have hcode:¬(hintCode (rd lt dk a' b' lim wb wp).c.2=2):=λh=>hh (hintCode_two h)
        obtain⟨e2,epv,eht⟩:=rd_not hh;go_wp2_with fail
        go_meet
        case rel=>exact⟨by rw[epv],by rw[eht],by rw[e2];exact HW2⟩
      case rest=>
       obtain⟨rfl,rfl,HW3⟩:=hcut
       clear kz0 kz1 HW2
       have v0':=HD.out.c0 HW3.out
       have v1':=HD.out.c1 HW3.out
       go_upto_region 16 with fail
       go_cut [12,68]from 19 (λI s68 wx=>I=.int .i64 (hintCode (rd lt dk a' b' lim wb wp).hint)/\s68=.bool (wb&&wp&&decide ((rd lt dk a' b' lim wb wp).hint=.increasing))/\wx=wc)
       case first=>
        cases wb<;>cases wp<;>cases J:(rd lt dk a' b' lim _ _).hint<;>
         (have hcode3:=congrArg hintCode J
          simp only[hintCode]at hcode3
          go_wp2_with fail
          go_meet
          exact⟨by simp[J,hintCode],by simp[J,hintCode],rfl⟩)
       case rest=>
        obtain⟨rfl,rfl,rfl⟩:=hcut
        go_upto_if 68 with fail
        go_cut []from 19 (λwx=>(rd lt dk a' b' lim wb wp).pi.2=false/\Hid (S (rd lt dk a' b' lim wb wp).pi.1 wx))
        case first=>
         cases R:(wb&&wp&&decide ((rd lt dk a' b' lim wb wp).hint=.increasing))
         ·have epi:=rd_pi_no R;go_wp2_with fail
          go_meet
          case rel=>exact⟨by rw[epi],by rw[epi];exact HW3⟩
         ·have epi:=rd_pi_yes R;have hc19:=Am (P:=P) (ρ:=ρ) { L with } a' b' (HD.out.at' HW3.out (s2.trans i)) (by omega) (by omega);rw[<- epi]at hc19;go_wp2_with (go_at_fn (ρ.f 31);refine hc19.mono ?_;rintro e w4 ⟨rfl,T⟩;have H4:Hid _:=T;clear T)
          all_goals first
           | (have q:(rd lt dk a' b' lim wb wp).pi.2=false:=by rw[epi];assumption
              go_meet
              exact⟨q,HD.out.comp HW3.out H4.out (by rw[u,s2])⟩)
           | (have q:(rd lt dk a' b' lim wb wp).pi.2=true:=by rw[epi];assumption
              (try simp only[Exit.inBlock,Exit.then]);refine bodyPost_ret (results_none rfl _ _ _) rfl ?_
              refine⟨rfl,?_⟩
              rw[<- A.out,pdq_done s v q]
              exact HD.out.fin (HD.out.comp HW3.out H4.out (by rw[u,s2])) (u.trans i))
        case rest=>
         obtain⟨q,HW5⟩:=hcut
         clear v0' v1' HW3
         have t0':=HD.out.c0 HW5.out
         have t1':=HD.out.c1 HW5.out
         go_upto_region 18 with fail
         go_cut [83]from 19 (λs83 wx=>s83=.bool (decide (a'>0)&&!lt (rd lt dk a' b' lim wb wp).pi.1[a'-1]! (rd lt dk a' b' lim wb wp).pi.1[(rd lt dk a' b' lim wb wp).pivot]!)/\Hid (S (rd lt dk a' b' lim wb wp).pi.1 wx))
         case first=>
          rcases Nat.eq_zero_or_pos a' with K | K
          ·have ha0z:decide ((a':Int)>0)=false:=ae (by omega);go_wp2_with fail
           go_meet
           case rel=>exact⟨by simp[K],HW5⟩
          ·have ha0z:(a':Int)>0:=by omega
           have hl:=HD.out.less (a'-1) (rd lt dk a' b' lim wb wp).pivot HW5.out (u.trans i) (by omega) (by omega);rw[show ((a'-1:Nat):Int)=(a':Int)-1 by omega]at hl;cases U:lt (rd lt dk a' b' lim wb wp).pi.1[a'-1]! (rd lt dk a' b' lim wb wp).pi.1[(rd lt dk a' b' lim wb wp).pivot]!<;>
            (rw[U]at hl
             go_wp2_with (go_at_fn g;refine hl.mono ?_;rintro e w' ⟨rfl,V⟩;have H6:Hid _:=V;clear V)
             go_meet
             exact⟨by simp[K,U],H6⟩)
         case rest=>
          obtain⟨rfl,HW6⟩:=hcut
          clear t0' t1' HW5
          have q0:=HD.out.c0 HW6.out
          have q1:=HD.out.c1 HW6.out
          cases z:(decide (a'>0)&&!lt (rd lt dk a' b' lim wb wp).pi.1[a'-1]! (rd lt dk a' b' lim wb wp).pi.1[(rd lt dk a' b' lim wb wp).pivot]!)
          ·obtain⟨mid,ap,r,l⟩:∃mid ap r,partition lt (rd lt dk a' b' lim wb wp).pi.1 a' b' (rd lt dk a' b' lim wb wp).pivot=(mid,ap,r):=⟨(partition lt (rd lt dk a' b' lim wb wp).pi.1 a' b' (rd lt dk a' b' lim wb wp).pivot).1,(partition lt (rd lt dk a' b' lim wb wp).pi.1 a' b' (rd lt dk a' b' lim wb wp).pivot).2.1,(partition lt (rd lt dk a' b' lim wb wp).pi.1 a' b' (rd lt dk a' b' lim wb wp).pivot).2.2,rfl⟩;obtain⟨r1,Y,Z,r4,r5,r6,r7⟩:=round_part E (partition_holds lt) p.1 p.2 (show b'<=(rd lt dk a' b' lim wb wp).pi.1.size by omega) B3 l;have hc22:=Qs (P:=P) (ρ:=ρ) { L with } a' b' (rd lt dk a' b' lim wb wp).pivot (HD.out.at' HW6.out (u.trans i)) p.1 p.2 (by omega);rw[l]at hc22;have X:Aside (partition lt (rd lt dk a' b' lim wb wp).pi.1 a' b' (rd lt dk a' b' lim wb wp).pivot=(mid,ap,r)):=l;clear l;go_upto_if 109 with (go_at_fn (ρ.f 33);refine hc22.mono ?_;rintro e w7 ⟨rfl,x⟩;have HW7:Hid _:=HD.out.comp HW6.out x Z;clear x)
           have l:=X.out;have B:r.size=d.size:=Z.trans (u.trans i);clear q0 q1 HW6;have p0:=HD.out.c0 HW7.out;have p1:=HD.out.c1 HW7.out;by_cases h4:mid-a'<b'-mid
           ·have h4z:(mid:Int)-(a':Int)<(b':Int)-(mid:Int):=by omega
            have C:=IH.out a' mid (rd lt dk a' b' lim wb wp).lim r _ (by omega) (HD.out.at' HW7.out B) (by omega) (by omega) (Nat.lt_of_le_of_lt (amq rd_lim_le hlim) hlimit) r4;obtain⟨pL,sL⟩:=pdq_sorts lt E r a' mid (rd lt dk a' b' lim wb wp).lim true true (by omega) (by omega) r4;go_wp2_with (go_at_fn (ρ.f 14);refine C.mono ?_;rintro e w8 ⟨rfl,y⟩;have H8:Hid _:=y;clear y)
            go_roundg (b'-(mid+1))
            case measure=>omega
            case rel=>
             refine⟨mid+1,b',(rd lt dk a' b' lim wb wp).lim,decide (mid-a'>=(b'-a') / 8),ap,pdq lt r a' mid (rd lt dk a' b' lim wb wp).lim true true,by simp,rfl,rfl,?_,rfl,by omega,by omega,aD _,by omega,amq rd_lim_le hlim,by rw[pL.1,B],(r6 _ pL sL).1,HD.out.comp HW7.out H8.out pL.1,?_⟩
             ·exact congrArg Value.bool (eighth (by omega) (by omega))
             ·show _=_
              rw[<- A.out,pdq_left s v q z (by rw[l];exact⟨r1,Y⟩) (by rw[l];exact h4),l]
           ·have h4z:¬((mid:Int)-(a':Int)<(b':Int)-(mid:Int)):=by omega
            have C:=IH.out (mid+1) b' (rd lt dk a' b' lim wb wp).lim r _ (by omega) (HD.out.at' HW7.out B) (by omega) (by omega) (Nat.lt_of_le_of_lt (amq rd_lim_le hlim) hlimit) r5;rw[show ((mid+1:Nat):Int)=(mid:Int)+1 by omega]at C;obtain⟨pL,sL⟩:=pdq_sorts lt E r (mid+1) b' (rd lt dk a' b' lim wb wp).lim true true (by omega) (by omega) r5;go_wp2_with (go_at_fn (ρ.f 14);refine C.mono ?_;rintro e w8 ⟨rfl,y⟩;have H8:Hid _:=y;clear y)
            go_roundg (mid-a')
            case measure=>omega
            case rel=>
             refine⟨a',mid,(rd lt dk a' b' lim wb wp).lim,decide (b'-mid>=(b'-a') / 8),ap,pdq lt r (mid+1) b' (rd lt dk a' b' lim wb wp).lim true true,rfl,rfl,rfl,?_,rfl,by omega,by omega,aD _,by omega,amq rd_lim_le hlim,by rw[pL.1,B],(r7 _ pL sL).1,HD.out.comp HW7.out H8.out pL.1,?_⟩
             ·exact congrArg Value.bool (eighth (by omega) (by omega))
             ·show _=_
              rw[<- A.out,pdq_right s v q z (by rw[l];exact⟨r1,Y⟩) (by rw[l];exact h4),l]
          ·have h87':=z;simp only[Bool.and_eq_true,decide_eq_true_eq,Bool.not_eq_true']at h87';obtain⟨mid,r,l⟩:∃mid r,partitionEqual lt (rd lt dk a' b' lim wb wp).pi.1 a' b' (rd lt dk a' b' lim wb wp).pivot=(mid,r):=⟨(partitionEqual lt (rd lt dk a' b' lim wb wp).pi.1 a' b' (rd lt dk a' b' lim wb wp).pivot).1,(partitionEqual lt (rd lt dk a' b' lim wb wp).pi.1 a' b' (rd lt dk a' b' lim wb wp).pivot).2,rfl⟩;obtain⟨r1,Y,Z,r4,_⟩:=round_eq E (partitionEqual_holds lt) h87'.1 p.1 p.2 (show b'<=(rd lt dk a' b' lim wb wp).pi.1.size by omega) B3 h87'.2 l;have hc21:=D5 (P:=P) (ρ:=ρ) { L with } a' b' (rd lt dk a' b' lim wb wp).pivot (HD.out.at' HW6.out (u.trans i)) p.1 p.2 (by omega);rw[l]at hc21;have X:Aside (partitionEqual lt (rd lt dk a' b' lim wb wp).pi.1 a' b' (rd lt dk a' b' lim wb wp).pivot=(mid,r)):=l;clear l;go_wp2_with (go_at_fn (ρ.f 32);refine hc21.mono ?_;rintro e w7 ⟨rfl,x⟩;have H7:Hid _:=x;clear x)
           go_roundg (b'-mid)
           case measure=>omega
           case rel=>
            have l:=X.out
            exact⟨mid,b',(rd lt dk a' b' lim wb wp).lim,wb,wp,r,rfl,rfl,rfl,rfl,rfl,Y,hb',aD _,by omega,amq rd_lim_le hlim,by rw[Z,u,i],r4,HD.out.comp HW6.out H7.out Z,(show _=_ from by rw[<- A.out,pdq_eq s v q z (by rw[l];exact⟨r1,Y⟩),l])⟩
end Go.Proofs
/- sort.Slice at elements of k cells, with a 'less' that may lay boxes of its own: a permutation, in order. -/
namespace Go.Proofs
open Go.Shelf Go.RowKit Go.Lib Go.Sort
variable {P:Program} {ρ:Ren} {α:Type} [Inhabited α]
theorem acI(L:LaysGg.n6 P ρ)(t e:TypeId)(i ie:TypeInfo)(hi:P.info? t=some i)(hd:i.desc=.slice e)(hpk:P.packed t=false)(hie:P.info? e=some ie)(ke:Nat)(hke:∀w,(Extern.Rtype.kind e).run P w=.ok ke w)
  (enc:α->List Value) (k:Nat) (hk:∀x,(enc x).length=k) (hs1:ie.size=k) (hagg:∀w,(isAgg e).run P w=.ok true w) (h1:∀x,∀v∈enc x,v.oneCell'=true) (lt:α->α->Bool) (hO:SWO lt) (g:Nat) (lb:Array Value)
  (eg:∀args w,(callFunc g args).run P w=.ok (.enter g args) w) (blk off c:Nat) (d:Array α) (h2:2<=d.size) (hsz:d.size<4611686018427387904)
  (f : Nat) (hf : P.funcs.findIdx? (·.name == "internal/reflectlite" ++ ".Swapper$" ++ toString (swapperK d.size ie ke)) = some f)
  (gS:Bool) (hx:∀args W,(callFunc f args).run P W=((Extern.ReflectliteSwapper.swap gS args).run P W).andThen λv w'=>.ok (.value v) w')
  (w:World) (hless:jr P g lb enc k lt blk off d.size w) (hH:HoldsK enc k w blk off d) (hblk:blk<w.heap.size) :
  Calls P (ρ.f 6) #[.iface t (.slice (some ⟨blk,off,none⟩) d.size c),.func (.func g) #[] lb] w λe w'=>
   e=.returned (.tuple #[])/\∃d',PermIn 0 d.size d d'/\SortedIn lt 0 d.size d'/\SWK enc k w blk off d' w':=by
 refine Any.sort_Slice_of_pdq L t e i ie hi hd hpk hie ke hke _ d.size c hsz f hf (.func g) #[] lb w _ ?_;have hB:sliceBound P e ie ke (some ⟨blk,off,none⟩) d.size c = #[.slice (some ⟨blk,off,none⟩) d.size c,typeHandle P e]:=by
  unfold sliceBound;rw[if_neg (swapperK_gt _ _ _ h2)]
 have hW:sliceWorld P ρ t (some ⟨blk,off,none⟩) d.size c w=grow w #[.cells #[.slice (some ⟨blk,off,none⟩) d.size c] t,.cells #[.pointer (some ⟨P.globals.size,t,none⟩),.pointer (some ⟨w.heap.size,0,none⟩),.int .u64 151] (ρ.t 35)]:=by
  unfold sliceWorld;rw[alloc_eq_grow,alloc_eq_grow,grow_grow];rfl
 generalize (#[.cells #[.slice (some ⟨blk,off,none⟩) d.size c] t,.cells #[.pointer (some ⟨P.globals.size,t,none⟩),.pointer (some ⟨w.heap.size,0,none⟩),.int .u64 151] (ρ.t 35)]:Array Obj)=os0 at hW;rw[hB,hW];have hlim:Lib.bitLen d.size<4611686018427387904:=Nat.lt_of_le_of_lt (Lib.bitLen_le d.size 62 (by omega) (by omega)) (by omega);have h:kF P enc k lt g lb f #[.slice (some ⟨blk,off,none⟩) d.size c,typeHandle P e] blk off d (grow w os0):=
  ⟨hk,eg,hless.grow hblk os0,swapSwapsK_of_literal gS f hx e ie hie enc k hk hs1 hagg h1 blk off d.size c,holdsK_grow enc k w _ blk off d hblk hH,by rw[size_grow];omega,hsz⟩
 refine (aeR (P:=P) (ρ:=ρ) { L with } hO (d.size+1) 0 d.size (Lib.bitLen d.size) d (grow w os0) (by omega) h (Nat.zero_le _) (aD _) hlim (Or.inl rfl)).mono ?_;rintro e w' ⟨rfl,hw⟩;obtain⟨p,s⟩:=pdq_sorts lt hO d 0 d.size (Lib.bitLen d.size) true true (Nat.zero_le _) (aD _) (Or.inl rfl);exact⟨rfl,_,p,s,SWK.comp (SWK.FO hH ⟨0,os0,by rw[ahead_zero]⟩) hblk hw p.1⟩
end Go.Proofs
/- The order by which origins are sorted: the closure's walk; sort.Slice at a row of the call's own. -/
namespace Go.Proofs.YtjbajpfonnnfoaaGreatDoor
open Go.Abs Go.Proofs Go.Shelf Go.RowKit Go.Lib Go.Sort
instance:Inhabited aj:=⟨⟨0,0⟩⟩
def lS(o:aj):List Value:=[.int .i64 o.cell,.int .i64 o.row]
theorem ae1{x y:aj}(h:orB x y=false):¬(x.cell<y.cell\/x.cell=y.cell/\x.row<y.row):=λq=>by rw[yj.2 q]at h;cases h
theorem agN:SWO orB where
 irrefl:=KR
 trans:=λ_ _ _ h k=>wI h k
 ntrans:=λx y z h k=>by
  have a:=ae1 h;have b:=ae1 k;cases e:orB x z with
  | false=>rfl
  | true=>rw[yj]at e;omega
set_option maxHeartbeats 2000000 in
set_option maxRecDepth 100000 in
theorem Qv(xi xj:aj)(W:World) :
  Calls Tryz.prog 220 #[.agg #[.int .i64 xi.cell,.int .i64 xi.row],.agg #[.int .i64 xj.cell,.int .i64 xj.row]] W λe w'=>e=.returned (.bool (orB xi xj))/\∃m os,w'=grow (Sort.ahead W m) os:=by
 have mixed:=l6.mixed;go_enter Tryz.func220,Tryz.ntmps220
 go_wp2
 all_goals
  go_ret
  refine⟨?_,0,_,by rw[alloc_eq_grow,alloc_eq_grow,grow_grow];rfl⟩
  simp_all [orB]
set_option maxHeartbeats 4000000 in
set_option maxRecDepth 100000 in
theorem Xg(Bs blk n cap i j:Nat)(xi xj:aj)(W:World)(a:W.cell? ⟨Bs,0,none⟩=some (.slice (some ⟨blk,0,none⟩) n cap))(hi:i<n)(h:j<n)(k:n<4611686018427387904)
  (b:W.cell? ⟨blk,i*2,none⟩=some (.int .i64 xi.cell)) (c:W.cell? ⟨blk,i*2+1,none⟩=some (.int .i64 xi.row)) (d:W.cell? ⟨blk,j*2,none⟩=some (.int .i64 xj.cell)) (f:W.cell? ⟨blk,j*2+1,none⟩=some (.int .i64 xj.row)) :
  Calls Tryz.prog 223 #[.int .i64 i,.int .i64 j,.pointer (some ⟨Bs,0,none⟩)] W λe w'=>e=.returned (.bool (orB xi xj))/\∃m os,w'=grow (Sort.ahead W m) os:=by
 have g:=λW'=>Qv xi xj W'
 have mixed:=l6.mixed;go_enter Tryz.func223,Tryz.ntmps223
 go_wp2
 go_still_tail 8,(by kernel_rfl)
 change wpList _ _ _ _ _ W.drew;clear b c d f a;go_wp2_with (go_at_call 220;refine (g _).mono ?_;rintro e w' ⟨rfl,m,os,rfl⟩)
 go_ret
 exact⟨rfl,1+m,os,by rw[drew_eq_ahead,ahead_ahead]⟩
theorem Xh{Bs blk cap:Nat}{d:Array aj}{w:World}(q:HoldsK lS 2 w blk 0 d)(hblk:blk<w.heap.size)(hBs:w.cell? ⟨Bs,0,none⟩=some (.slice (some ⟨blk,0,none⟩) d.size cap))(f:Bs<w.heap.size)(g:Bs≠blk)(h:d.size<4611686018427387904) :
  jr Tryz.prog 223 #[.pointer (some ⟨Bs,0,none⟩)] lS 2 orB blk 0 d.size w:=by
 intro m os dk r i j hi s;have a:SWK lS 2 w blk 0 dk (sortWorldK lS 2 w blk 0 m dk os):=⟨m,os,rfl⟩;have hHW:=a.holds hblk q r;have k:=(a.cellAt (b:=Bs) (o:=0) g f).trans hBs;have cell:∀t,t<dk.size->(sortWorldK lS 2 w blk 0 m dk os).cell? ⟨blk,t*2,none⟩=some (.int .i64 dk[t]!.cell)/\(sortWorldK lS 2 w blk 0 m dk os).cell? ⟨blk,t*2+1,none⟩=some (.int .i64 dk[t]!.row):=λt l=>by
  have n:=(hHW.cell (i:=t) (c:=0) l (by omega)).1;have p:=(hHW.cell (i:=t) (c:=1) l (by omega)).1;rw[amw]at n p;exact⟨n,p⟩
 refine (Xg Bs blk d.size cap i j dk[i]! dk[j]! _ k hi s h (cell i (by omega)).1 (cell i (by omega)).2 (cell j (by omega)).1 (cell j (by omega)).2).mono ?_;rintro e w' ⟨rfl,u⟩;exact⟨rfl,SWK.FO hHW u⟩
noncomputable def uniT:TypeInfo:=(Tryz.prog.info? 115).get (by kernel_rfl)
noncomputable def abT:TypeInfo:=(Tryz.prog.info? 158).get (by kernel_rfl)
theorem agG:abT.hasPointers=false:=by kernel_rfl
theorem abR:abT.bytes=16:=by kernel_rfl
theorem uniK(n:Nat)(a:2<=n):Lib.swapperK n abT 25=9:=by
 have c:(n==0)=false:=by simp;omega
 have d:(n==1)=false:=by simp;omega
 simp[Lib.swapperK,agG,abR,c,d]
theorem af5(x:aj):(lS x).length=2:=rfl
theorem Po(x:aj):∀v∈lS x,v.oneCell'=true:=λv hv=>by
 simp[lS]at hv;rcases hv with rfl | rfl<;>rfl
theorem abQ{Bs blk c:Nat}{d:Array aj}(hsz:d.size<4611686018427387904){w:World}(hH:HoldsK lS 2 w blk 0 d)(hblk:blk<w.heap.size)(hBs:w.cell? ⟨Bs,0,none⟩=some (.slice (some ⟨blk,0,none⟩) d.size c))(hB1:Bs<w.heap.size)(hB2:Bs≠blk) :
  Calls Tryz.prog 222 #[.iface 115 (.slice (some ⟨blk,0,none⟩) d.size c),.func (.func 223) #[] #[.pointer (some ⟨Bs,0,none⟩)]] w λe w'=>
   e=.returned (.tuple #[])/\∃d',PermIn 0 d.size d d'/\SortedIn orB 0 d.size d'/\SWK lS 2 w blk 0 d' w':=by
 by_cases h2:2<=d.size
 ·exact acI l6 115 158 uniT abT (by kernel_rfl) (by kernel_rfl) (by kernel_rfl) (by kernel_rfl) 25 (λ_=>by kernel_rfl) lS 2 af5 (by kernel_rfl) (λ_=>by kernel_rfl)
   Po orB agN 223 _
   (enters_of Tryz.func223 (by kernel_rfl) rfl) blk 0 c d h2 hsz 245 (by rw[uniK _ h2];kernel_rfl) false
   (λargs W=>run_callFunc_extern Tryz.func245 (by kernel_rfl) (by kernel_rfl) (by kernel_rfl) (e:=Extern.ReflectliteSwapper.swap false) (by kernel_rfl) args W) w (Xh hH hblk hBs hB1 hB2 hsz) hH hblk
 ·obtain ⟨f, hf⟩ : ∃ f, Tryz.prog.funcs.findIdx? (·.name == "internal/reflectlite" ++ ".Swapper$" ++ toString (Lib.swapperK d.size abT 25)) = some f := by
   have:d.size=0\/d.size=1:=by omega
   rcases this with h | h
   ·rw[h];exact⟨237,by kernel_rfl⟩
   ·rw[h];exact⟨238,by kernel_rfl⟩
  refine (Any.sort_Slice_tiny l6 115 158 uniT abT (by kernel_rfl) (by kernel_rfl) (by kernel_rfl) (by kernel_rfl) 25 (λ_=>by kernel_rfl) (some ⟨blk,0,none⟩) d.size c (by omega) f hf (.func 223) #[] #[.pointer (some ⟨Bs,0,none⟩)] w).mono ?_;rintro e w' ⟨rfl,os,rfl⟩;refine⟨rfl,d,⟨rfl,λ_ _=>rfl,List.Perm.refl _⟩,λi j _ _ _=>by omega,SWK.FO hH ⟨0,os,by rw[ahead_zero]⟩⟩
theorem agF{Bs g cap:Nat}{cur:Array Value}{E:TypeId}{os:List aj}{w:World}(q:w.heap[g]?=some (.cells cur E (0,0)))(hc:cur.size=cap*2)(K:os.length<=cap)(I:os.length<4611686018427387904)
  (t:∀(i:Nat) (o:aj),os[i]?=some o->cur[i*2]?=some (.int .i64 o.cell)/\cur[i*2+1]?=some (.int .i64 o.row))
  (hBs:w.cell? ⟨Bs,0,none⟩=some (.slice (some ⟨g,0,none⟩) os.length cap)) (u:Bs<w.heap.size) (v:Bs≠g) :
  Calls Tryz.prog 222 #[.iface 115 (.slice (some ⟨g,0,none⟩) os.length cap),.func (.func 223) #[] #[.pointer (some ⟨Bs,0,none⟩)]] w λe w'=>
   e=.returned (.tuple #[])/\w'.os=w.os/\w'.tape=w.tape/\w'.output=w.output/\w.heap.size<=w'.heap.size/\(∀c,c<w.heap.size->c≠g->w'.heap[c]?=w.heap[c]?) /\
   ∃(cur':Array Value) (ys:List aj),ys.Perm os/\ys.Pairwise (λx y=>orB y x=false)/\w'.heap[g]?=some (.cells cur' E (0,0))/\cur'.size=cap*2/\∀(i:Nat) (o:aj),ys[i]?=some o->cur'[i*2]?=some (.int .i64 o.cell)/\cur'[i*2+1]?=some (.int .i64 o.row):=by
 have a:g<w.heap.size:=(a6.1 q).1;have b:os.toArray.size=os.length:=by simp
 have H:HoldsK lS 2 w g 0 os.toArray:=by
  intro j d;have f:j<os.length*2:=by simpa using d
  have e:w.cell? ⟨g,0+j,none⟩=cur[j]?:=by simp[World.cell?,q]
  have hi:j / 2<os.length:=by omega
  obtain⟨o,k⟩:∃o,os[j / 2]?=some o:=⟨_,zF hi⟩;obtain⟨r,s⟩:=t (j / 2) o k;refine⟨?_,?_⟩
  ·rw[e,getElem!_pos _ j d];have ek:(flatK lS 2 os.toArray)[j]'d=(lS o)[j % 2]!:=by
    simp[flatK,k]
   rw[ek];rcases Nat.mod_two_eq_zero_or_one j with h | h
   ·have z:j / 2*2=j:=by omega
    rw[h,<- z,r];rfl
   ·have z:j / 2*2+1=j:=by omega
    rw[h,<- z,s];rfl
  ·unfold World.frozen?;simp only[q];simp
 rw[<- b]at hBs;refine (show Calls _ _ _ _ _ from by rw[<- b];exact abQ (by rw[b];exact I) H a hBs u v).mono ?_;rintro e w' ⟨rfl,d',hp,A,l⟩;have m:=l.holds a H hp.1;have B:d'.size=os.length:=by rw[hp.1,b]
 obtain⟨n,os',rfl⟩:=l;have p:(sortWorldK lS 2 w g 0 n d' os').heap[g]?=some (.cells (putCells id 0 (flatK lS 2 d') cur) E (0,0)):=by
  show ((putRow id (Sort.ahead w n) g 0 _).heap++os')[g]?=_
  rw[Array.getElem?_append_left (by rw[size_putRow];exact a)];show (w.heap.modify g _)[g]?=_
  rw[Array.getElem?_modify,if_pos rfl,q];rfl
 refine⟨rfl,rfl,rfl,rfl,?_,?_,putCells id 0 (flatK lS 2 d') cur,d'.toList,?_,?_,p,?_,?_⟩
 ·show _<=((putRow id (Sort.ahead w n) g 0 _).heap++os').size
  rw[Array.size_append,size_putRow];exact Nat.le_add_right _ _
 ·intro c C D;show ((putRow id (Sort.ahead w n) g 0 _).heap++os')[c]?=_
  rw[Array.getElem?_append_left (by rw[size_putRow];exact C)];show (w.heap.modify g _)[c]?=_
  rw[Array.getElem?_modify,if_neg (Ne.symm D)]
 ·have:=hp.2.2;rw[b,show d'.extract 0 os.length=d' by rw[<- B];simp,show os.toArray.extract 0 os.length=os.toArray by rw[<- b];simp]at this;simpa using this
 ·rw[List.pairwise_iff_getElem];intro i j hi d F;have f:j<d'.size:=by simpa using d
  have G:i<d'.size:=by omega
  have:=A i j (Nat.zero_le _) F (by rw[b];omega);rw[getElem!_pos d' i G,getElem!_pos d' j f]at this;simpa using this
 ·unfold putCells;rw[Array.size_mapIdx];exact hc
 ·intro i o k;have hi:i<d'.size:=by
   have:=(zC.1 k).1;simpa using this
  have J:d'[i]! = o:=by
   rw[getElem!_pos d' i hi];have:=(zC.1 k).2;simpa using this
  have cell:∀x,(sortWorldK lS 2 w g 0 n d' os').cell? ⟨g,x,none⟩=(putCells id 0 (flatK lS 2 d') cur)[x]?:=λx=>by simp[World.cell?,p]
  have r:=(m.cell (i:=i) (c:=0) hi (by omega)).1;have s:=(m.cell (i:=i) (c:=1) hi (by omega)).1;rw[amw,cell,J]at r s;exact⟨r,s⟩
end Go.Proofs.YtjbajpfonnnfoaaGreatDoor
/- The walk over impl.UnionOrigins: a map of the call's own keeps what was met; the list is sorted in place. -/
namespace Go.Proofs.YtjbajpfonnnfoaaGreatDoor
open Go.Abs Go.Proofs Go.Shelf Go.RowKit Go.Lib Go.Sort Go.Maps
theorem TL{H:Type}{P:Program}{e:TypeId}(a:P.underlying e=some .bool){v:Value}{b:Bool}{ps:List MemPlace}(h:plainElem (H:=H) P e v=some (.lit (.bool b),ps)):v=.bool b:=by
 unfold plainElem at h;rw[a]at h;cases v<;>simp at h
 rw[h.1]
theorem qp{H:Type}{P:Program}(w:World){ops:Array Oper}{rest:List Oper}{o:Oper}{a:Act}{Q:Exit->Act->World->Prop}
  (i:o.guard=none) (m x:Operand) (t:TypeId) (d:o.op=Op.lookup t m x false)
  (k e:TypeId) (K:Keyed P k) (j:P.underlying t=some (.map k e)) (h:P.underlying e=some .bool) (l:(zeroValue e).run P w=.ok (.bool false) w) (b n:Nat) (D:DataW H)
  (p:a.eval m=.map (some b)) (hown:w.ownsMap P k (plainElem P e) b n D) (key:Value) (kl:Lit) (q:a.eval x=key) (hkey:keyOf P k key=some kl) (c:Bool) (f:D.atKey kl (.lit (.bool false))=.lit (.bool c))
  (r:wpList P ops Q rest (a.put o.dst (.bool c)) w) :
  wpList P ops Q (o::rest) a w:=by
 refine wpList_plain i λK' g=>?_
 obtain⟨v,ps,hrun,hv⟩:=hown.lookup K j l (plainElem_bool h false) hkey;rw[f]at hv;have:=TL h hv;subst this;unfold Oper.wp;simp[execOp,d,p,q,hrun,Result.andThen];exact g _ _ r
theorem TK:Tryz.prog.underlying 187=some (.map 158 4):=by kernel_rfl
theorem V8(w:World):(zeroValue 4).run Tryz.prog w=.ok (.bool false) w:=by kernel_rfl
theorem LG:Tryz.prog.underlying 4=some .bool:=by kernel_rfl
theorem LD:Tryz.prog.underlying 115=some (.slice 158):=by kernel_rfl
theorem adJ:(Tryz.prog.info? 158).map (λi=>(i.zero,i.size,i.bytes))=some (some (.agg #[.int .i64 0,.int .i64 0]),2,16):=by kernel_rfl
theorem adH:(match Tryz.prog.underlying 158 with | some (.array _ _) | some (.struct _)=>true | _=>false)=true:=by kernel_rfl
theorem YN:(158:TypeId)<Tryz.prog.types.size:=of_decide_eq_true (by kernel_rfl)
theorem adI:laidOutB Tryz.prog=true:=by kernel_rfl
set_option maxRecDepth 100000 in
theorem Hg:Keyed Tryz.prog 158:=Keyed.of_law (deep_law_laid adI (m:=2) (by omega) YN (by kernel_rfl) adH)
def okO(o:aj):Prop:=(Lit.int .i64 o.cell).wf=true/\(Lit.int .i64 o.row).wf=true
def Ef(o:aj):Lit:=.string (keyBytes [.int .i64 o.cell,.int .i64 o.row])
theorem afz{a b:aj}(d:okO a)(e:okO b)(h:Ef a=Ef b):a=b:=by
 have g:keyBytes [.int .i64 a.cell,.int .i64 a.row]=keyBytes [.int .i64 b.cell,.int .i64 b.row]:=by injection h
 have f:=keyBytes_inj (l:=[.int .i64 a.cell,.int .i64 a.row]) (l':=[.int .i64 b.cell,.int .i64 b.row]) (show Alike (_::_::[]) (_::_::[])from⟨rfl,rfl,trivial⟩) (λl c=>by
  rcases bh.1 c with rfl | c
  ·exact d.1
  ·rw[List.mem_singleton.1 c];exact d.2) (λl c=>by
  rcases bh.1 c with rfl | c
  ·exact e.1
  ·rw[List.mem_singleton.1 c];exact e.2) g
 cases a;cases b
 simp at f;simp[f]
theorem ahI{o:aj}(h:okO o):keyOf Tryz.prog 158 (.agg #[.int .i64 o.cell,.int .i64 o.row])=some (Ef o):=by
 obtain⟨n,c⟩:∃n,Tryz.prog.types.size=n+1:=Nat.exists_eq_succ_of_ne_zero (of_decide_eq_true (by kernel_rfl));have a:=Tryz.underlying158;have hi:Tryz.prog.underlying 3=some (.int .i64):=by kernel_rfl
 have hk:Tryz.prog.keyType 158=true:=by kernel_rfl
 have hc:Tryz.prog.cellsOf 158=2:=by kernel_rfl
 have b:Tryz.prog.cellsOf 3=1:=by kernel_rfl
 have d:Tryz.prog.keyLits (Tryz.prog.types.size+1) 158 [.int .i64 o.cell,.int .i64 o.row]=some [.int .i64 o.cell,.int .i64 o.row]:=by
  rw[c];simp[Program.keyLits,a,hi,hc,b,h.1,h.2]
 have hf:Value.formed Tryz.prog 158 (.agg #[.int .i64 o.cell,.int .i64 o.row])=true:=by
  unfold Value.formed;rw[a,hc];rfl
 unfold keyOf;rw[a];show (if (Tryz.prog.keyType 158&&Value.formed Tryz.prog 158 (.agg #[.int .i64 o.cell,.int .i64 o.row]))=true then (Tryz.prog.keyLits (Tryz.prog.types.size+1) 158 [.int .i64 o.cell,.int .i64 o.row]).map (λls=>Lit.string (keyBytes ls))else none)=_
 rw[hk,hf,d];rfl
theorem ail{H:Type}{x:aj}(f:okO x):∀acc:List aj,(∀o,o∈acc->okO o)->(setOf (H:=H) (.lit (.bool true)) (acc.map Ef)).atKey (Ef x) (.lit (.bool false))=.lit (.bool (acc.any (eqO x))):=by
 have key:∀r:List aj,(∀o,o∈r->okO o)->(setOf (H:=H) (.lit (.bool true)) (r.reverse.map Ef)).atKey (Ef x) (.lit (.bool false))=.lit (.bool (r.reverse.any (eqO x))):=by
  intro r;induction r with
  | nil=>intro _;rfl
  | cons y r ih=>
   intro d;rw[List.reverse_cons,List.map_append,List.map_singleton,setOf_snoc];by_cases a:x=y
   ·subst a;have g:Tidy (setOf (H:=H) (.lit (.bool true)) (r.reverse.map Ef)):=tidy_setOf _ _ λz i=>by
     obtain⟨y,_,rfl⟩:=List.mem_map.1 i;exact True.intro
    rw[atKey_put_same (k:=Ef x) g.isMap True.intro];simp[Pn]
   ·have b:Ef x≠Ef y:=λe=>a (afz f (d y aw) e)
    have j:eqO x y=false:=by
     cases e:eqO x y with
     | false=>rfl
     | true=>exact absurd (uM.1 e) a
    rw[atKey_put_other b,ih λo c=>d o (ar _ c)];simp[j]
 intro acc h;have:=key acc.reverse (λo c=>h o (List.mem_reverse.1 c));rwa [List.reverse_reverse]at this
def kC(xs:List aj):List Value:=xs.flatMap lS
theorem CB:∀xs:List aj,(kC xs).length=xs.length*2
 | []=>rfl
 | x::r=>by
  show (lS x++kC r).length=_
  rw[a8,CB r];show 2+_=_
  simp;omega
theorem SE(xs ys:List aj):kC (xs++ys)=kC xs++kC ys:=List.flatMap_append
theorem xk:∀(xs:List aj) (i:Nat) (o:aj),xs[i]?=some o->(kC xs)[i*2]?=some (.int .i64 o.cell)/\(kC xs)[i*2+1]?=some (.int .i64 o.row)
 | [],i,o,h=>by simp at h
 | x::r,0,o,h=>by
  simp at h;subst h;exact⟨rfl,rfl⟩
 | x::r,i+1,o,h=>by
  have:=xk r i o (by simpa using h);show (lS x++kC r)[(i+1)*2]?=_/\(lS x++kC r)[(i+1)*2+1]?=_
  rw[amD (by show 2<=_;omega),amD (by show 2<=_;omega)];rw[show (i+1)*2-(lS x).length=i*2 by show (i+1)*2-2=_;omega,show (i+1)*2+1-(lS x).length=i*2+1 by show (i+1)*2+1-2=_;omega];exact this
theorem SC(xs:List aj):∀u∈kC xs,u.oneCell'=true:=λu a=>by
 obtain⟨o,_,b⟩:=List.mem_flatMap.1 a;exact Po o u b
theorem afX{xs:List aj}{j:Nat}{v:Value}(h:(kC xs)[j]?=some v):∃o,xs[j / 2]?=some o/\(lS o)[j % 2]?=some v:=by
 have d:j<xs.length*2:=by rw[<- CB];exact (zC.1 h).1
 have hi:j / 2<xs.length:=by omega
 obtain⟨b,c⟩:=xk xs (j / 2) _ (zF hi);refine⟨_,zF hi,?_⟩;rcases Nat.mod_two_eq_zero_or_one j with e | e
 ·have a:j / 2*2=j:=by omega
  rw[a,h]at b;rw[e,b];rfl
 ·have a:j / 2*2+1=j:=by omega
  rw[a,h]at c;rw[e,c];rfl
def P6(w:World)(xs:List aj)(u:Value):Prop:=(u=.slice none 0 0/\xs=[])\/∃ad cap,u=.slice (some ad) xs.length cap/\∀j v,(kC xs)[j]?=some v->ad.block<w.heap.size/\w.cell? (ad.add j)=some v
theorem Jm{w:World}{S:Nat->Nat->Prop}{xs:List aj}{u:Value}(k:Rep w S (.list (.base .origin) xs) u)(m:∀b o,S b o->b<w.heap.size):P6 w xs u:=by
 generalize c:D.list (.base .origin) xs=d at k;cases k with
 | int=>cases c
 | bool=>cases c
 | str=>cases c
 | nil t=>cases c;exact .inl ⟨rfl,rfl⟩
 | emp t a cap=>cases c;exact .inr ⟨a,cap,rfl,λj v h=>by simp[kC]at h⟩
 | list t xs' b off cap vs hcap hc g=>
  cases c
  refine .inr ⟨_,cap,rfl,λj v h=>?_⟩;obtain⟨o,i,hv⟩:=afX h;have c:∃d,((Ty.base .origin).cells o)[j % 2]?=some d/\∀u,Rep w S d u->u=v:=by
   rcases Nat.mod_two_eq_zero_or_one j with e | e
   ·rw[e]at hv ⊢;simp[lS]at hv;exact⟨_,rfl,λu f=>by rw[oV f,<- hv]⟩
   ·rw[e]at hv ⊢;simp[lS]at hv;exact⟨_,rfl,λu f=>by rw[oV f,<- hv]⟩
  obtain⟨d,c,f⟩:=c;have l:=(hc (j / 2) o (j % 2) d i c).1;have n:=f _ (g (j / 2) o (j % 2) d i c);have p:=m _ _ (hc (j / 2) o (j % 2) d i c).2;have e:j / 2*(Ty.base .origin).size+j % 2=j:=by show j / 2*2+j % 2=j;omega
  rw[e,n]at l;refine⟨p,?_⟩;rw[show (⟨b,off,none⟩:Addr).add j=⟨b,off+j,none⟩ by unfold Addr.add;split<;>simp_all]
  exact l
theorem P6.below{w w':World}{xs:List aj}{u:Value}(h:P6 w xs u)(a:Below w.heap.size w w'):P6 w' xs u:=by
 rcases h with h | ⟨ad,cap,rfl,h⟩
 ·exact .inl h
 ·refine .inr ⟨ad,cap,rfl,λj v hv=>?_⟩;obtain⟨b,c⟩:=h j v hv;have d:(ad.add j).block=ad.block:=by unfold Addr.add;split<;>rfl
  exact⟨aL b a.size,(a.cell (p:=ad.add j) (by rw[d];exact b)).trans c⟩
section
variable {P:Program} (w:World)
theorem tV{ops:Array Oper}{rest:List Oper}{o:Oper}{a:Act}{Q:Exit->Act->World->Prop}(b:o.guard=none)(s x:Operand)(t:TypeId)
  (A:o.op=.call { callee:=.builtin .append,args:=#[s,x],argTypes:=#[t,t] })
  (base:Nat) (e:TypeId) (i:TypeInfo) (z:Value) (size bytes:Nat) (d:P.underlying t=some (.slice e)) (hi:P.info? e=some i) (F:i.zero=some z)
  (hsize:i.size=size) (f:i.bytes=bytes) (k:z.cells.size=size) (l:0<size)
  (v:Value) (n:Nat) (xs:List Value) (B:a.eval s=v) (hown:w.ownsRow base e size v n xs) (hv:v≠.slice none 0 0)
  (u:Value) (m:Nat) (news:List Value) (C:a.eval x=u) (D:news.length=m*size) (hsrc:(u=.slice none 0 0/\m=0)\/∃ad c,u=.slice (some ad) m c/\∀j q,news[j]?=some q->w.cell? (ad.add j)=some q) (G:∀u∈news,u.oneCell'=true)
  (p:n+m<=maxLen) (hbytes:(n+m)*bytes<=140737488355328) (hbase:base<=w.heap.size)
  (h:∀v' w',w'.ownsRow base e size v' (n+m) (xs++news)->w.grownBy w' v.ownBlock->v'≠.slice none 0 0->(v'.ownBlock=v.ownBlock\/v'.ownBlock=some w.heap.size)->wpList P ops Q rest (a.put o.dst v') w') :
  wpList P ops Q (o::rest) a w:=by
 rcases hsrc with ⟨rfl,rfl⟩ | ⟨ad,c,rfl,hnews⟩
 ·have H:news=[]:=amB (by simpa using D);subst H;refine wpList_plain b λK I=>?_
  have hown':=hown;obtain⟨hlen,J | ⟨g,cap,cur,rfl,L,U,r,M,N,htake⟩⟩:=hown
  ·exact absurd J.1 hv
  have E:=run_append_room_src (P:=P) w t t o.type e i d hi g 0 n cap (.slice none 0 0) 0 [] (Src.ofNil (P:=P) w d 0) r (λj y=>by simp at y) (λj y=>by simp at y);simp only[World.setCells,Nat.add_zero]at E;unfold Oper.wp execOp;simp only[A,resolve,invoke,builtin,Sem.run_bind,Sem.run_pure,Result.andThen_ok,List.map_toArray,List.map_cons,List.map_nil,B,C,E];exact I _ _ (h _ _ (by simpa using hown') (World.grownBy.refl _ _) hv (.inl rfl))
 ·exact wpList_append_own_at w b s x t A base e i z size bytes d hi F hsize f k l v n xs B hown ad m c news C D hnews G p hbytes hbase λv' w' O R S T=>h v' w' O R (λq=>hv (S.1 q).1) T
end
theorem fP(w:World)(a:Addr)(v:Value):w.grownBy (w.setCell a v) (some a.block):=
 ⟨rfl,rfl,rfl,by simp[World.setCell],λk _ b=>Below.heap_setCell w a v k λe=>b (by rw[e])⟩
def iU(zs:List aj)(k:Nat):List aj:=(zs.take k).foldl Bl []
noncomputable def NJ(zs:List aj)(k:Nat):DataW Unit:=setOf (.lit (.bool true)) ((iU zs k).map Ef)
theorem ZA(zs:List aj){k:Nat}{x:aj}(h:zs[k]?=some x):iU zs (k+1)=Bl (iU zs k) x:=by
 unfold iU;obtain⟨hk,rfl⟩:=zC.1 h;rw[List.take_add_one,List.foldl_append,h];rfl
theorem aeZ(zs:List aj)(k:Nat):(iU zs k).length<=k:=by
 unfold iU;have:=rV (zs.take k) [];rw[bc]at this;simp at this;omega
theorem aeY{zs:List aj}(h:∀o,o∈zs->okO o)(k:Nat):∀o,o∈iU zs k->okO o:=λo b=>by
 rcases ((D8 (zs.take k) [] List.nodup_nil).2 o).1 b with a | a
 ·cases a
 ·exact h o (List.mem_of_mem_take a)
structure xG(N:Nat)(w wr:World)(zs:List aj)(vS v:Value)(k:Nat):Prop where
 map:wr.ownsMap Tryz.prog 158 (plainElem (H:=Unit) Tryz.prog 4) N k (NJ zs k)
 box:wr.cell? ⟨N+2,0,none⟩=some v
 fro:wr.frozen? ⟨N+2,0,none⟩=false
 row:wr.ownsRow (N+1) 158 2 v (iU zs k).length (kC (iU zs k))
 src:wr.ownsRow (N+3) 158 2 vS zs.length (kC zs)
 bel:Below N w wr
 big:N+4<=wr.heap.size
 nv:v≠.slice none 0 0
 ne:v.ownBlock≠vS.ownBlock
 nb:v.ownBlock≠some (N+2)
theorem xG.akt{N:Nat}{w wr:World}{zs:List aj}{vS v:Value}{k:Nat}(h:xG N w wr zs vS v k){j:Nat}(a:j<N+3):some j≠vS.ownBlock:=λe=>by
 have:=(h.src.lt j e.symm).1;omega
theorem xG.row_ne{N:Nat}{w wr:World}{zs:List aj}{vS v:Value}{k:Nat}(h:xG N w wr zs vS v k){j:Nat}(a:j<N+1):some j≠v.ownBlock:=λe=>by
 have:=(h.row.lt j e.symm).1;omega
theorem xG.step{N:Nat}{w wr w':World}{zs:List aj}{vS v:Value}{k:Nat}(h:xG N w wr zs vS v k){b:Nat}(d:wr.heap.size<=b)(a:wr.grownBy w' (some b)):xG N w w' zs vS v k where
 map:=h.map.kept a (by have:=h.big;intro e;injection e with e;omega)
 box:=a.cell h.box (by have:=h.big;intro e;injection e with e;simp at e;omega)
 fro:=(a.frozen_far _ (by have:=h.big;show N+2<_;omega) (by have:=h.big;intro e;injection e with e;simp at e;omega)).trans h.fro
 row:=h.row.kept a (.inr λe=>by have:=(h.row.lt b e).2;omega)
 src:=h.src.kept a (.inr λe=>by have:=(h.src.lt b e).2;omega)
 bel:=h.bel.grown a (by have:=h.big;omega) (λj c=>by cases c;have:=h.big;omega)
 big:=amq h.big a.size
 nv:=h.nv
 ne:=h.ne
 nb:=h.nb
def VW(zs:List aj)(w:World)(e:Ending)(w':World):Prop:=
 ∃g cap cur E,∃ys:List aj,e=.returned (.slice (some ⟨g,0,none⟩) ys.length cap)/\ys.Perm (y5 zs)/\ys.Pairwise (λx y=>orB y x=false)/\w.heap.size<=g/\Below w.heap.size w w'/\w'.heap[g]?=some (.cells cur E (0,0))/\cur.size=cap*2/\ys.length<=cap/\cap<=maxLen /\
  ∀(i:Nat) (o:aj),ys[i]?=some o->cur[i*2]?=some (.int .i64 o.cell)/\cur[i*2+1]?=some (.int .i64 o.row)
theorem agH{zs:List aj}{w wr:World}{vS v:Value}(E:zs.length<=34359738368)(h:xG w.heap.size w wr zs vS v zs.length) :
  Calls Tryz.prog 222 #[.iface 115 v,.func (.func 223) #[] #[.pointer (some ⟨w.heap.size+2,0,none⟩)]] wr λe w'=>e=.returned (.tuple #[])/\w'.cell? ⟨w.heap.size+2,0,none⟩=some v/\VW zs w (.returned v) w':=by
 have t:iU zs zs.length=y5 zs:=by unfold iU y5;rw[List.take_length]
 have hrow:=h.row;have f:=h.nb;have j:=h.nv;have a:=h.box;have hbel:=h.bel;have hbig:=h.big;rw[t]at hrow;have u:(y5 zs).length<=zs.length:=acO zs;obtain⟨hlen,hrow⟩:=hrow;clear h;rcases hrow with ⟨h,_⟩ | ⟨g,cap,cur,rfl,F,x,hcap,hmax,k,l⟩
 ·exact absurd h j
 have b:w.heap.size+2≠g:=λe=>f (by show some g=_;rw[e])
 have m:∀(i:Nat) (o:aj),(y5 zs)[i]?=some o->cur[i*2]?=some (.int .i64 o.cell)/\cur[i*2+1]?=some (.int .i64 o.row):=by
  intro i o q;have hi:=(zC.1 q).1;obtain⟨r,d⟩:=xk _ i o q;rw[<- l,amo,if_pos (by omega),Array.getElem?_toList]at r d;exact⟨r,d⟩
 refine (agF (Bs:=w.heap.size+2) x k hcap (by omega) m a (by omega) b).mono ?_;rintro e w' ⟨rfl,d,y,z,A,s,cur',ys,hp,n,B,C,D⟩;have p:ys.length=(y5 zs).length:=hp.length_eq;refine⟨rfl,?_,g,cap,cur',_,ys,by rw[p],hp,n,by omega,?_,B,C,by omega,hmax,D⟩
 ·rw[<- a];exact World.cell?_of_block (s _ (by show w.heap.size+2<_;omega) b)
 ·have n:=hbel.size;exact⟨d.trans hbel.os,y.trans hbel.tape,z.trans hbel.output,amq n A,λc hc=>(s c (by omega) (by omega)).trans (hbel.block c hc)⟩
theorem Xf{W:World}{E:TypeId}{g base:Nat}(a:W.heap.size=g)(b:base<=g):(W.alloc (.cells #[] E)).ownsRow base E 2 (.slice (some ⟨g,0,none⟩) 0 0) 0 []:=by
 subst a;exact World.ownsRow_made (base:=base) (e:=E) (size:=2) W #[] 0 b (by unfold maxLen;omega) rfl
theorem RJ{W:World}{E:TypeId}{base n:Nat}{v:Value}{xs:List Value}(h:W.ownsRow base E 2 v n xs)(hv:v≠.slice none 0 0):∃g cap,v=.slice (some ⟨g,0,none⟩) n cap:=by
 obtain⟨_,h | ⟨g,cap,_,rfl,_⟩⟩:=h
 ·exact absurd h.1 hv
 ·exact⟨g,cap,rfl⟩
theorem cell_two_new(w:World)(x y:Value)(t:TypeId):∀j u,[x,y][j]?=some u->(w.alloc (.cells #[x,y] t)).cell? ((⟨w.heap.size,0,none⟩:Addr).add j)=some u:=World.news_of_block (MapKept.heap_alloc w _).1
abbrev YO(w:World):World:=(((w.alloc (.map #[] 0)).alloc (.cells #[] 158)).alloc (.cells #[.slice (some ⟨w.heap.size+1,0,none⟩) 0 0] 115)).alloc (.cells #[] 158)
theorem Dv(w:World):Below w.heap.size w (YO w):=((((Below.refl _ _).alloc (aD _) _).alloc (by simp) _).alloc (by simp;omega) _).alloc (by simp;omega) _
theorem Rh(w:World):(YO w).heap.size=w.heap.size+4:=by simp[YO]
theorem P6.use{w:World}{xs:List aj}{u:Value}(h:P6 w xs u):(u=.slice none 0 0/\xs.length=0)\/∃ad c,u=.slice (some ad) xs.length c/\∀j q,(kC xs)[j]?=some q->w.cell? (ad.add j)=some q:=by
 rcases h with ⟨a,rfl⟩ | ⟨ad,c,a,b⟩
 ·exact .inl ⟨a,rfl⟩
 ·exact .inr ⟨ad,c,a,λj q d=>(b j q d).2⟩
theorem adL(w:World):(YO w).cell? ⟨w.heap.size+2,0,none⟩=some (.slice (some ⟨w.heap.size+1,0,none⟩) 0 0):=by
 rw[World.cell?_alloc_past _ _ _ (by simp),World.cell?_alloc_at _ _ _ _ (by simp)];rfl
theorem adK(w:World):(YO w).frozen? ⟨w.heap.size+2,0,none⟩=false:=by
 rw[((World.grownBy_alloc _ _ none).frozen_far ⟨w.heap.size+2,0,none⟩ (by show w.heap.size+2<_;simp) (by simp)),World.frozen?_alloc_at _ _ _ _ (by simp)]
theorem LH{w w1:World}(h:(YO w).grownBy w1 (some (w.heap.size+3))):Below w.heap.size w w1/\w.heap.size+4<=w1.heap.size:=by
 have a:=Rh w;have b:=h.size;exact⟨(Dv w).grown h (by omega) (λk hk=>by injection hk with hk;omega),by omega⟩
theorem xG.start{w w1 w2:World}{r:Option Nat}{zs:List aj}{vS:Value}(a:(YO w).grownBy w1 (some (w.heap.size+3)))(b:w1.grownBy w2 r)(c:∀j,r=some j->w.heap.size+3<=j)
  (d:w2.ownsRow (w.heap.size+3) 158 2 vS zs.length (kC zs)):xG w.heap.size w w2 zs vS (.slice (some ⟨w.heap.size+1,0,none⟩) 0 0) 0:=by
 have g:=Rh w;have h:=a.size;have i:=b.size;have far:∀j,j<w.heap.size+3->some j≠r:=λj f e=>by have:=c _ e.symm;omega
 have far1:∀j,j<w.heap.size+3->some j≠some (w.heap.size+3):=λj f e=>by injection e with e;omega
 refine⟨?_,?_,?_,?_,d,?_,by omega,by simp,?_,?_⟩
 ·exact (((((World.ownsMap_made w _ _ _).alloc _).alloc _).alloc _).kept a (far1 _ (by omega))).kept b (far _ (by omega))
 ·exact b.cell (a.cell (adL w) (far1 _ (by show w.heap.size+2<_;omega))) (far _ (by show w.heap.size+2<_;omega))
 ·exact (b.frozen_far _ (by show w.heap.size+2<_;omega) (far _ (by show w.heap.size+2<_;omega))).trans ((a.frozen_far _ (by show w.heap.size+2<_;omega) (far1 _ (by show w.heap.size+2<_;omega))).trans (adK w))
 ·exact ((((Xf (W:=w.alloc (.map #[] 0)) (by simp) (aD _)).alloc _).alloc _).kept a (.inr (far1 (w.heap.size+1) (by omega)))).kept b (.inr (far (w.heap.size+1) (by omega)))
 ·exact ((Dv w).grown a (by omega) (λk hk=>by injection hk with hk;omega)).grown b (by omega) (λk hk=>by have:=c k hk;omega)
 ·intro e;have:=(d.lt (w.heap.size+1) e.symm).1;omega
 ·intro e;have e:some (w.heap.size+1)=some (w.heap.size+2):=e;injection e with e;omega
theorem vO(w:World)(o:Obj):w.grownBy (w.alloc o) (some w.heap.size):=World.grownBy_alloc w o _
theorem xG.more{N:Nat}{w wr w1 w2:World}{zs:List aj}{vS v a:Value}{k:Nat}{x:aj}(h:xG N w wr zs vS v k)(u:iU zs (k+1)=iU zs k++[x]){c:World}{b:Nat}(y:wr.heap.size<=b)
  (hc:wr.grownBy c (some b)) (z:w1.ownsMap Tryz.prog 158 (plainElem (H:=Unit) Tryz.prog 4) N (k+1) ((NJ zs k).put (Ef x) (.lit (.bool true)))) (g:c.grownBy w1 (some N))
  {o:Obj} (A:w2.ownsRow (N+1) 158 2 a ((iU zs k).length+1) (kC (iU zs k)++lS x)) (f:(w1.alloc o).grownBy w2 v.ownBlock) (n:a≠.slice none 0 0) (i:a.ownBlock=v.ownBlock\/a.ownBlock=some (w1.alloc o).heap.size) :
  xG N w (w2.setCell ⟨N+2,0,none⟩ a) zs vS a (k+1):=by
 have m:=h.step y hc;have big:=h.big;have s0:=hc.size;have D:=g.size;have s2:=f.size;have E:(w1.alloc o).heap.size=w1.heap.size+1:=by simp
 have hset:=fP w2 ⟨N+2,0,none⟩ a;have l:(some (N+2):Option Nat)≠some N:=λe=>by injection e with e;omega
 have p:(some N:Option Nat)≠some (N+2):=λe=>by injection e with e;omega
 have r:(w1.alloc o).cell? ⟨N+2,0,none⟩=some v:=(World.grownBy_alloc w1 o none).cell (g.cell m.box l) (by simp);have s:w2.cell? ⟨N+2,0,none⟩=some v:=f.cell r (Ne.symm h.nb);have src1:(w1.alloc o).ownsRow (N+3) 158 2 vS zs.length (kC zs):=(m.src.kept g (.inr (Ne.symm (h.akt (by omega))))).alloc o;have src2:=src1.kept f (.inr (Ne.symm h.ne));have d:a.ownBlock≠some (N+2):=λe=>by
  rcases i with q | q
  ·exact h.nb (q.symm.trans e)
  ·rw[q]at e;injection e with e;omega
 refine⟨?_,?_,?_,?_,src2.kept hset (.inr λe=>?_),?_,?_,n,?_,d⟩
 ·have:NJ zs (k+1)=(NJ zs k).put (Ef x) (.lit (.bool true)):=by unfold NJ;rw[u,List.map_append,List.map_singleton,setOf_snoc]
  rw[this];exact ((z.alloc o).kept f (h.row_ne (by omega))).kept hset p
 ·exact World.cell?_setCell_same w2 _ _ (by rw[s])
 ·have B:w1.frozen? ⟨N+2,0,none⟩=false:=(g.frozen_far _ (by show N+2<_;omega) l).trans m.fro;have C:w2.frozen? ⟨N+2,0,none⟩=false:=(f.frozen_far _ (by show N+2<_;omega) (Ne.symm h.nb)).trans (((World.grownBy_alloc w1 o none).frozen_far _ (by show N+2<_;omega) (by simp)).trans B);rw[World.frozen?_setCell];exact C
 ·rw[u,a8,SE];have:kC [x]=lS x:=by simp[kC]
  rw[this];exact A.kept hset (.inr d)
 ·have:=(h.src.lt (N+2) e).1;omega
 ·exact (((m.bel.grown g (by omega) (λj t=>by cases t;exact aD _)).alloc (by omega) o).grown f (by omega) (λj t=>by have:=(h.row.lt j t).1;omega)).setCell (by show N<=N+2;omega) _
 ·have:(w2.setCell ⟨N+2,0,none⟩ a).heap.size=w2.heap.size:=by simp[World.setCell]
  omega
 ·intro e;rcases i with q | q
  ·exact h.ne (q.symm.trans e)
  ·rw[q]at e;have:=(h.src.lt _ e.symm).2;omega
theorem xG.same{N:Nat}{w wr:World}{zs:List aj}{vS v:Value}{k:Nat}(h:xG N w wr zs vS v k)(b:iU zs (k+1)=iU zs k):xG N w wr zs vS v (k+1):=by
 obtain⟨c,d,e,f,g,i,j,l,m,a⟩:=h;refine⟨?_,d,e,by rw[b];exact f,g,i,j,l,m,a⟩;unfold NJ at c ⊢;rw[b];exact c.mono (Nat.le_succ _)
set_option maxHeartbeats 8000000 in
set_option maxRecDepth 100000 in
theorem YM(a b:List aj)(ua ub:Value)(w:World)(G:P6 w a ua)(I:P6 w b ub)(A:a.length+b.length<=34359738368)(p:∀o,o∈a++b->okO o) :
  Calls Tryz.prog 203 #[ua,ub] w λe w'=>VW (a++b) w e w':=by
 have M:=@run_makeMap Tryz.prog;obtain⟨i0,hi,h,l,m⟩:=info_parts adJ;have HA:Hid (P6 w a ua):=G;have HB:Hid (P6 w b ub):=I;have HO:Hid (∀o,o∈a++b->okO o):=p;clear G I p;go_enter Tryz.func203,Tryz.ntmps203
 go_wp2_with (first
  | (at_builtin;refine tV _ rfl _ _ 115 rfl (w.heap.size+3) 158 i0 (.agg #[.int .i64 0,.int .i64 0]) 2 16 LD hi h l m rfl (by decide) (.slice (some ⟨w.heap.size+3,0,none⟩) 0 0) 0 [] rfl (Xf (by simp) (by omega)) (by simp) ua a.length (kC a) rfl (CB a) (HA.out.below (Dv w)).use (SC a) (by unfold maxLen;omega) (by omega) (by simp) ?_;intro N w1 hown1 hgrow1 g r;rw[amw,List.nil_append]at hown1)
  | (at_builtin;refine tV _ rfl _ _ 115 rfl (w.heap.size+3) 158 i0 (.agg #[.int .i64 0,.int .i64 0]) 2 16 LD hi h l m rfl (by decide) N a.length (kC a) rfl hown1 g ub b.length (kC b) rfl (CB b) ?_ (SC b) ?_ ?_ ?_ ?_)
  | go_in)
 ·exact (HB.out.below (LH hgrow1).1).use
 ·unfold maxLen;omega
 ·omega
 ·exact amq (Nat.le_succ _) (LH hgrow1).2
 intro J w2 hown2 hgrow2 c d;rw[<- SE,<- a8]at hown2;obtain⟨gS,capS,rfl⟩:=RJ hown2 c;have B:Hid (xG w.heap.size w w2 (a++b) (.slice (some ⟨gS,0,none⟩) (a++b).length capS) (.slice (some ⟨w.heap.size+1,0,none⟩) 0 0) 0):=xG.start hgrow1 hgrow2 (λj O=>(hown1.lt j O).1) hown2;clear hown1 hgrow1 g r hown2 hgrow2 c d;have A:(a++b).length<=34359738368:=by rw[a8];exact A
 generalize C:a++b=zs at B HO A ⊢;go_wp2
 go_loopw [17] (λi wr=>∃(k:Nat) (v:Value),k<=zs.length/\i=.int .i64 k/\Hid (xG w.heap.size w wr zs (.slice (some ⟨gS,0,none⟩) zs.length capS) v k)) (λi _=>zs.length-(intOf i).toNat)
 case atStart=>exact⟨0,_,Nat.zero_le _,rfl,B⟩
 case round=>
  clear B HA HB
  obtain⟨k,v,hk,rfl,H⟩:=hrel
  have hbox:=H.out.box
  have hfro:=H.out.fro
  by_cases D:k<zs.length
  ·obtain⟨x,n⟩:∃x,zs[k]?=some x:=⟨_,zF D⟩;have P:wr.cell? ⟨gS,k*2,none⟩=some (.int .i64 x.cell):=(H.out.src.cellAt (k*2) (by omega)).trans (xk zs k x n).1;have Q:wr.cell? ⟨gS,k*2+1,none⟩=some (.int .i64 x.row):=(H.out.src.cellAt (k*2+1) (by omega)).trans (xk zs k x n).2;have hokx:=HO.out x (zG n);have hkey:=ahI hokx;have f:=ail (H:=Unit) hokx (iU zs k) (aeY HO.out k);change (NJ zs k).atKey (Ef x) (.lit (.bool false))=_ at f;have hsucc:iU zs (k+1)=Bl (iU zs k) x:=ZA zs n;have E:=aeZ zs k;cases hcon:(iU zs k).any (eqO x)with
   | true=>
    rw[hcon]at f;have s:iU zs (k+1)=iU zs k:=by rw[hsucc];unfold Bl;rw[if_pos hcon]
    have HA:Hid (iU zs (k+1)=iU zs k):=s;clear hsucc s hcon n E;go_wp2_with (first
     | (at_lookup;refine qp _ rfl _ _ 187 rfl 158 4 Hg TK LG (V8 _) w.heap.size k _ rfl (H.out.map.alloc _) _ _ rfl hkey true f ?_)
     | go_in)
    go_roundw
    case rel=>exact⟨k+1,v,by omega,by go_num,(H.out.step (aD _) (vO wr _)).same HA.out⟩
    case measure=>simp[intOf];omega
   | false=>
    rw[hcon]at f;have s:iU zs (k+1)=iU zs k++[x]:=by rw[hsucc];unfold Bl;rw[if_neg (by rw[hcon];simp)]
    have HA:Hid (iU zs (k+1)=iU zs k++[x]):=s;clear hsucc s hcon n;have HB2:Hid (w.heap.size+4<=wr.heap.size):=H.out.big;have hNB:Hid (v.ownBlock≠some (w.heap.size+2)):=H.out.nb;have t:Hid ((some (w.heap.size+2):Option Nat)≠some w.heap.size):=λe=>by injection e with e;omega
    have u:Hid ((some wr.heap.size:Option Nat)≠some w.heap.size):=λe=>by have:=HB2.out;injection e with e;omega
    have y:∀o:Obj,(wr.alloc o).cell? ⟨w.heap.size+1+1,0,none⟩=some v:=λo=>(World.grownBy_alloc wr o none).cell H.out.box (by simp)
    have z:∀o:Obj,(wr.alloc o).frozen? ⟨w.heap.size+1+1,0,none⟩=false:=λo=>((World.grownBy_alloc wr o none).frozen_far _ (by have:=HB2.out;show w.heap.size+2<_;omega) (by simp)).trans H.out.fro
    have BX:Hid _:=y;have FX:Hid _:=z;clear y z;go_wp2_with (first
     | (at_lookup;refine qp _ rfl _ _ 187 rfl 158 4 Hg TK LG (V8 _) w.heap.size k _ rfl (H.out.map.alloc _) _ _ rfl hkey false f ?_)
     | (at_mapUpdate;refine wpList_mapUpdate_own _ rfl _ _ _ 187 rfl 158 4 Hg TK (plainElem (H:=Unit) Tryz.prog 4) w.heap.size k _ rfl (H.out.map.alloc _) (by unfold maxLen;omega) _ _ _ rfl rfl hkey _ [] (plainElem_bool LG true) ?_;intro w1 hown1 hgrow1
        have hbox1:w1.cell? ⟨w.heap.size+1+1,0,none⟩=some v:=hgrow1.cell (BX.out _) t.out
        have hfro1:w1.frozen? ⟨w.heap.size+1+1,0,none⟩=false:=(hgrow1.frozen_far _ (by have:=HB2.out;show w.heap.size+2<_;simp;omega) t.out).trans (FX.out _)
        have R:w1.cell? ⟨wr.heap.size,0,none⟩=some (.int .i64 x.cell):=hgrow1.cell (by simp) u.out
        have S:w1.cell? ⟨wr.heap.size,1,none⟩=some (.int .i64 x.row):=hgrow1.cell (by simp) u.out)
     | (at_builtin;refine wpList_append_own_at _ rfl _ _ 115 rfl (w.heap.size+1) 158 i0 (.agg #[.int .i64 0,.int .i64 0]) 2 16 LD hi h l m rfl (by decide) v _ _ rfl (((H.out.step (aD _) (vO wr _)).row.kept hgrow1 (.inr (Ne.symm (H.out.row_ne (by omega))))).alloc _) ⟨w1.heap.size,0,none⟩ 1 1 (lS x) rfl rfl (cell_two_new _ _ _ _) (Po x) (by unfold maxLen;omega) (by omega) (by have:=hgrow1.size;have:=HB2.out;simp at *;omega) ?_;intro J w2 hown2 hgrow2 hnil2 d
        have c:J≠.slice none 0 0:=λq=>H.out.nv (hnil2.1 q).1
        obtain⟨U,cap2,rfl⟩:=RJ hown2 c
        have hbox2:w2.cell? ⟨w.heap.size+1+1,0,none⟩=some v:=hgrow2.cell ((World.grownBy_alloc w1 _ none).cell hbox1 (by simp)) (Ne.symm hNB.out)
        have hfro2:w2.frozen? ⟨w.heap.size+1+1,0,none⟩=false:=(hgrow2.frozen_far _ (by have:=HB2.out;have:=hgrow1.size;show w.heap.size+2<_;simp at *;omega) (Ne.symm hNB.out)).trans (((World.grownBy_alloc w1 _ none).frozen_far _ (by have:=HB2.out;have:=hgrow1.size;show w.heap.size+2<_;simp at *;omega) (by simp)).trans hfro1))
     | go_in)
    go_roundw
    case rel=>exact⟨k+1,_,by omega,by go_num,xG.more H.out HA.out (aD _) (vO wr _) hown1 hgrow1 hown2 hgrow2 c d⟩
    case measure=>simp[intOf];omega
  ·obtain rfl:k=zs.length:=by omega
   have HH:=agH A H.out;go_wp2_with (go_at_call 222;refine HH.mono ?_;rintro e w2 ⟨rfl,F,K⟩;have L:w2.cell? ⟨w.heap.size+1+1,0,none⟩=some v:=F;have T:Hid (VW zs w _ w2):=K;clear K)
   go_ret
   rw[C];exact T.out
theorem QC{a b ys:List aj}(h:iJ a b=some ys):a.length+b.length<=34359738368/\(∀o,o∈a++b->okO o)/\ys=kR a b:=by
 unfold iJ at h;obtain⟨_,g,h⟩:=zB.1 h;split at h
 case isFalse=>cases h
 rename_i hall;refine⟨lW g,λo c=>?_,(a7 h).symm⟩;have:=List.all_eq_true.1 hall o c;unfold Kq at this;simp only[zI,decide_eq_true_eq]at this;exact⟨WalkArith.wf_i64 this.1,WalkArith.wf_i64 this.2⟩
theorem abS{a b:List aj}{w w':World}{S:Nat->Nat->Prop}{e:Ending}(h:VW (a++b) w e w'):∃v,e=.returned v/\Below w.heap.size w w'/\Tq w.heap.size w' S true [⟨false,.list (.base .origin)⟩] (kR a b) v:=by
 obtain⟨g,cap,cur,E,ys,rfl,hp,q,r,s,p,m,hcap,hmax,l⟩:=h;have n:g<w'.heap.size:=(a6.1 p).1;have o:=Wj hp q;subst o;have cell:∀(i:Nat) (x:aj) (j:Nat) (d:D),(kR a b)[i]?=some x->((Ty.base .origin).cells x)[j]?=some d->(j=0/\d=.int .i64 x.cell)\/(j=1/\d=.int .i64 x.row):=λi x j d k f=>by
  match j with
  | 0=>simp[Ty.cells,Base.cells]at f;exact .inl ⟨rfl,f.symm⟩
  | 1=>simp[Ty.cells,Base.cells]at f;exact .inr ⟨rfl,f.symm⟩
  | j+2=>simp[Ty.cells,Base.cells]at f
 refine⟨_,rfl,s,[_],rfl,λi c=>i=0/\c=g,⟨?_,trivial⟩,λi c hc=>by obtain⟨_,rfl⟩:=hc;exact⟨r,n⟩,λi y c t u=>t.1.trans u.1.symm⟩
 ·exact Ow.list (.base .origin) (kR a b) g cap cur E (λi j=>if j=0 then .int .i64 ((kR a b)[i]!).cell else .int .i64 ((kR a b)[i]!).row) (λ_ _ _=>False) _ p hcap hmax m ⟨rfl,rfl⟩ (λi x j d k f=>by
   have e:i*(Ty.base .origin).size+j=i*2+j:=rfl;have hv:(kR a b)[i]! = x:=by rw[List.getElem!_eq_getElem?_getD,k];rfl
   rw[e,hv];rcases cell i x j d k f with ⟨rfl,rfl⟩ | ⟨rfl,rfl⟩
   ·exact (l i x k).1
   ·exact (l i x k).2) (λi x j d k f=>by
   have hv:(kR a b)[i]! = x:=by rw[List.getElem!_eq_getElem?_getD,k];rfl
   rw[hv];rcases cell i x j d k f with ⟨rfl,rfl⟩ | ⟨rfl,rfl⟩
   ·exact Ow.int _ _ _
   ·exact Ow.int _ _ _) (λ_ _ _ h=>h.elim) λ_ _ _ _ _ h=>h.elim
theorem qA:Sound Tryz.prog JZ:=by
 intro w S args x y h i a b;rcases args with _ | ⟨u,_ | ⟨c,_ | ⟨j,r⟩⟩⟩
 ·exact a.elim
 ·exact a.2.elim
 ·have h:iJ x.1 x.2=some y:=h;obtain⟨d,f,rfl⟩:=QC h;refine (YM x.1 x.2 u c w (Jm (show Rep w S (.list (.base .origin) x.1) u from a.1.1) b) (Jm (show Rep w S (.list (.base .origin) x.2) c from a.2.1) b) d f).mono ?_;intro e w' g;exact abS g
 ·exact a.2.elim
end Go.Proofs.YtjbajpfonnnfoaaGreatDoor
/- The library's functions as contracts at this program; the integer of a range with a text. -/
namespace Go.Proofs.YtjbajpfonnnfoaaGreatDoor
open Go.Abs Go.Proofs Go.Shelf Go.RowKit Go.Lib Go.Sort
theorem Vg (w : World) (h : amb w) : ∃ m, w.cell? ⟨(afw.g 1), 0, none⟩ = some (.int .i64 m) := by have e : (Tryz.prog.globalNamed "internal/bytealg.MaxLen").getD 0 = afw.g 1 := by { kernel_rfl }; have q := h.akR; rw [e] at q; exact q
theorem Oc:Sound Tryz.prog ZN:=Wi l146 (by kernel_rfl) Vg
