import Derived.Test.YtngjomkjlonfpaaGreatLay
import Derived.Deep.Cut
import Derived.Shelf.GgSortFunc.SmallK
import Derived.Shelf.GgSortMore.Stable
set_option linter.unusedSimpArgs false
set_option linter.unusedVariables false
/- The library's stable sort, walked: two sorted blocks merged in place. -/
namespace Go.Sort
variable {α:Type} [Inhabited α]
theorem Gx(p:Nat->Bool):∀(f i j:Nat),i<=j->i<=bin p f i j/\bin p f i j<=j
 | 0,i,j,h=>⟨Nat.le_refl _,h⟩
 | f+1,i,j,h=>by
  unfold bin;by_cases q:i<j
  ·rw[if_pos q];cases p ((i+j) / 2)with
   | true=>
    have:=Gx p f ((i+j) / 2+1) j (by omega);simp only[if_true];omega
   | false=>
    have:=Gx p f i ((i+j) / 2) (by omega);simp only[Bool.false_eq_true,if_false];omega
  ·rw[if_neg q];exact⟨Nat.le_refl _,h⟩
theorem jL(lt:α->α->Bool):∀(f a m b:Nat) (d:Array α),(symMerge lt f a m b d).size=d.size
 | 0,_,_,_,_=>rfl
 | f+1,a,m,b,d=>by
  have c:∀s e,(turned s m e d).size=d.size:=fun s e=>by
   unfold turned;split
   ·exact BL _ _ _ _ _
   ·rfl
  unfold symMerge;split
  ·exact acV _ _ _
  ·split
   ·exact Ut _ _ _
   ·simp only;split
    ·rw[jL lt f];split
     ·rw[jL lt f];exact c _ _
     ·exact c _ _
    ·split
     ·rw[jL lt f];exact c _ _
     ·exact c _ _
end Go.Sort
namespace Go.Proofs
open Go.Shelf Go.RowKit Go.Lib Go.Sort
variable {P:Program} {ρ:Ren} {α:Type} [Inhabited α] {enc:α->List Value} {k:Nat} {w0 w1 W W':World} {blk off:Nat} {dk dj:Array α}
set_option maxHeartbeats 8000000 in
set_option maxRecDepth 100000 in
theorem VN(L:LaysGt.n30 P ρ)(hk:∀x,(enc x).length=k)(lt:α->α->Bool)(g:Nat)(lb:Array Value)(sf:Nat)(sb:Array Value)(d:Array α)
  (eg:∀args w,(callFunc g args).run P w=.ok (.enter g args) w) (hless:gV P g lb enc k lt blk off d.size w0) (hswap:SwapSwapsK P sf sb enc k blk off d.size)
  (Z:HoldsK enc k w0 blk off d) (hblk:blk<w0.heap.size) (hsz:d.size<4611686018427387904) (f:Nat)
  (ih:∀(a m b:Nat) (dk:Array α) (W:World),SWK enc k w0 blk off dk W->dk.size=d.size->b-a<=f->a<m->m<b->b<=d.size ->
   Calls P (ρ.f 30) #[.agg #[.func (.func g) #[] lb,.func (.func sf) #[] sb],.int .i64 a,.int .i64 m,.int .i64 b] W fun e w'=>e=.returned (.tuple #[])/\SWK enc k W blk off (symMerge lt f a m b dk) w')
  (a m b:Nat) (dk:Array α) (W:World) (hW:SWK enc k w0 blk off dk W) (I:dk.size=d.size) (hf:b-a<=f+1) (ham:a<m) (hmb:m<b) (hb:b<=d.size) (q1:¬m-a=1) (q2:¬b-m=1) :
  Calls P (ρ.f 30) #[.agg #[.func (.func g) #[] lb,.func (.func sf) #[] sb],.int .i64 a,.int .i64 m,.int .i64 b] W fun e w'=>e=.returned (.tuple #[])/\SWK enc k W blk off (symMerge lt (f+1) a m b dk) w':=by
 have mixed:=L.mixed;have t0:=L.t0;have a0:=L.a0;have z0:=L.z0;have v0:=L.v0;have t3:=L.t3;have a3:=L.a3;have z3:=L.z3;have v3:=L.v3;have t4:=L.t4;have a4:=L.a4;have z4:=L.z4;have v4:=L.v4;have t26:=L.t26;have a26:=L.a26;have z26:=L.z26;have v26:=L.v26;have t38:=L.t38;have a38:=L.a38;have z38:=L.z38;have v38:=L.v38;have t42:=L.t42;have a42:=L.a42;have z42:=L.z42;have v42:=L.v42;have t47:=L.t47;have a47:=L.a47;have z47:=L.z47;have v47:=L.v47;have u42:=run_underlying L.t42;have L42:LaysGt.n42 P ρ:={ L with };have e42:∀args w,(callFunc (ρ.f 42) args).run P w=.ok (.enter (ρ.f 42) args) w:=enters_of L.f42 (by kernel_rfl) rfl;have e30:∀args w,(callFunc (ρ.f 30) args).run P w=.ok (.enter (ρ.f 30) args) w:=enters_of L.f30 (by kernel_rfl) rfl;have J:=hW.alloc (.cells #[.func (.func g) #[] lb,.func (.func sf) #[] sb] (ρ.t 42));have p:blk<(W.alloc (.cells #[.func (.func g) #[] lb,.func (.func sf) #[] sb] (ρ.t 42))).heap.size:=J.lt hblk;have hlt:blk<W.heap.size:=hW.lt hblk;have K:HoldsK enc k (W.alloc (.cells #[.func (.func g) #[] lb,.func (.func sf) #[] sb] (ρ.t 42))) blk off dk:=J.holds hblk Z I;have cell0:∀(dj:Array α) (wr:World),SWK enc k (W.alloc (.cells #[.func (.func g) #[] lb,.func (.func sf) #[] sb] (ρ.t 42))) blk off dj wr->wr.cell? ⟨W.heap.size,0,none⟩=some (.func (.func g) #[] lb):=fun dj wr h=>by
  rw[h.cellAt (b:=W.heap.size) (by omega) (by rw[alloc_eq_grow,size_grow];simp)];simp
 have cell1:∀(dj:Array α) (wr:World),SWK enc k (W.alloc (.cells #[.func (.func g) #[] lb,.func (.func sf) #[] sb] (ρ.t 42))) blk off dj wr->wr.cell? ⟨W.heap.size,1,none⟩=some (.func (.func sf) #[] sb):=fun dj wr h=>by
  rw[h.cellAt (b:=W.heap.size) (by omega) (by rw[alloc_eq_grow,size_grow];simp)];simp
 have above:∀(dj:Array α) (wr:World),SWK enc k (W.alloc (.cells #[.func (.func g) #[] lb,.func (.func sf) #[] sb] (ρ.t 42))) blk off dj wr->dj.size=d.size->SWK enc k w0 blk off dj wr:=fun dj wr h z=>J.comp hblk h (by rw[z,I])
 have less:∀(dj:Array α) (wr:World) (i j:Nat),SWK enc k (W.alloc (.cells #[.func (.func g) #[] lb,.func (.func sf) #[] sb] (ρ.t 42))) blk off dj wr->dj.size=d.size->i<d.size->j<d.size ->
   Calls P g (#[.int .i64 i,.int .i64 j]++lb) wr fun e w'=>e=.returned (.bool (lt dj[i]! dj[j]!))/\SWK enc k wr blk off dj w':=fun dj wr i j h z hi hj=>(above dj wr h z).lays hless z i j hi hj
 have hHW:HoldsK enc k W blk off dk:=hW.holds hblk Z I;have below:∀(dj:Array α) (wr:World),SWK enc k (W.alloc (.cells #[.func (.func g) #[] lb,.func (.func sf) #[] sb] (ρ.t 42))) blk off dj wr->dj.size=d.size->SWK enc k W blk off dj wr:=fun dj wr h z=>SWK.comp (SWK.alloc (SWK.start hHW) _) hlt h (by rw[z,I])
 have BE:Hid _:=below;have Q:Hid _:=cell0;have R:Hid _:=cell1;have AB:Hid _:=above;have LE:Hid _:=less;clear cell0 cell1 above less below;have q1z:¬((m:Int)-(a:Int)=1):=by omega
 have q1b:((m:Int)-(a:Int)==1)=false:=by simpa using q1z
 have q2z:¬((b:Int)-(m:Int)=1):=by omega
 have q2b:((b:Int)-(m:Int)==1)=false:=by simpa using q2z
 have hH':Hid _:=Z;have hl':Hid _:=hless;have IH:Hid _:=ih;have hmid:((((a+b) / 2:Nat)):Int)=((a:Int)+(b:Int)) / 2:=by omega
 clear Z hless ih;go_enter L.f30,BodyGt.n30_ntmps ρ
 go_upto_if 106 with (fail)
 go_cut [18,19]from 23 (fun v18 v19 w=>∃lo hi:Nat,v18=.int .i64 lo/\v19=.int .i64 hi/\lo=(if m>(a+b) / 2 then (a+b) / 2+m-b else a)/\hi=(if m>(a+b) / 2 then (a+b) / 2 else m)/\SWK enc k (W.alloc (.cells #[.func (.func g) #[] lb,.func (.func sf) #[] sb] (ρ.t 42))) blk off dk w)
 case first=>
  by_cases qm:m>(a+b) / 2
  ·have qmz:(m:Int)>((a:Int)+(b:Int)) / 2:=by omega
   go_wp2
   go_meet
   case rel=>exact⟨(a+b) / 2+m-b,(a+b) / 2,by congr 1;omega,by congr 1,by rw[if_pos qm],by rw[if_pos qm],SWK.start K⟩
  ·have qmz:¬((m:Int)>((a:Int)+(b:Int)) / 2):=by omega
   go_wp2
   go_meet
   case rel=>exact⟨a,m,rfl,rfl,by rw[if_neg qm],by rw[if_neg qm],SWK.start K⟩
 case rest=>
  obtain⟨lo,hi,rfl,rfl,A,B,S⟩:=hcut
  have hr:lo<=hi/\a<=lo/\hi<=m/\(a+b) / 2+m<=lo+b:=by
   by_cases qm:m>(a+b) / 2
   ·rw[if_pos qm]at A B;omega
   ·rw[if_neg qm]at A B;omega
  have hcut:cutAt lt a m b dk=bin (fun c=>!lt dk[(a+b) / 2+m-1-c]! dk[c]!) (b+1) lo hi:=by
   unfold cutAt;rw[A,B]
  clear A B
  obtain⟨r1,r2,r3,r4⟩:=hr
  have M:=Gx (fun c=>!lt dk[(a+b) / 2+m-1-c]! dk[c]!) (b+1) lo hi r1
  rw[<- hcut]at M
  have hS:∃st,st=cutAt lt a m b dk:=⟨_,rfl⟩
  obtain⟨st,N⟩:=hS
  have HST:Hid (st=cutAt lt a m b dk):=N
  have hstb:lo<=st/\st<=hi:=by rw[N];exact M
  have HCUT:Hid (cutAt lt a m b dk=bin (fun c=>!lt dk[(a+b) / 2+m-1-c]! dk[c]!) (b+1) lo hi):=hcut
  have HWC:Hid (SWK enc k (W.alloc (.cells #[.func (.func g) #[] lb,.func (.func sf) #[] sb] (ρ.t 42))) blk off dk wc):=S
  clear M hcut N S
  go_wp2
  go_loopw [18,19] (fun vi vj wr=>∃(i j O:Nat),vi=.int .i64 i/\vj=.int .i64 j/\lo<=i/\i<=j/\j<=hi/\j-i<=O/\SWK enc k (W.alloc (.cells #[.func (.func g) #[] lb,.func (.func sf) #[] sb] (ρ.t 42))) blk off dk wr/\bin (fun c=>!lt dk[(a+b) / 2+m-1-c]! dk[c]!) O i j=st) (fun vi vj _=>(intOf vj).toNat-(intOf vi).toNat)
  case atStart=>exact⟨lo,hi,b+1,rfl,rfl,Nat.le_refl _,r1,Nat.le_refl _,by omega,HWC.out,by rw[HST.out,HCUT.out]⟩
  case round=>
   obtain⟨i,j,O,rfl,rfl,hmi,hij,hjb,hf2,q,hE⟩:=hrel
   have c0:=Q.out dk wr q
   have c1:=R.out dk wr q
   have HWR:Hid (SWK enc k (W.alloc (.cells #[.func (.func g) #[] lb,.func (.func sf) #[] sb] (ρ.t 42))) blk off dk wr):=q
   have HE:Hid _:=hE
   clear hE
   by_cases s:i<j
   ·have T:=LE.out dk wr ((a+b) / 2+m-1-(i+j) / 2) ((i+j) / 2) q I (by omega) (by omega);rw[show (((a+b) / 2+m-1-(i+j) / 2:Nat):Int)=((a:Int)+(b:Int)) / 2+(m:Int)-1-((i:Int)+(j:Int)) / 2 by omega,show (((i+j) / 2:Nat):Int)=((i:Int)+(j:Int)) / 2 by omega]at T;obtain⟨f2',rfl⟩:∃f2',O=f2'+1:=⟨O-1,by omega⟩;clear q;cases C:lt dk[(a+b) / 2+m-1-(i+j) / 2]! dk[(i+j) / 2]! with
    | false=>
     rw[C]at T;go_wp2_with (go_at_fn g;refine T.mono ?_;rintro e w' ⟨rfl,n⟩)
     go_roundw
     case rel=>
      refine⟨(i+j) / 2+1,j,f2',by congr 1,rfl,by omega,by omega,hjb,by omega,SWK.comp HWR.out p n rfl,?_⟩
      rw[<- HE.out]
      conv=>rhs;rw[bin]
      rw[if_pos s,C];rfl
     case measure=>simp[intOf];omega
    | true=>
     rw[C]at T;go_wp2_with (go_at_fn g;refine T.mono ?_;rintro e w' ⟨rfl,n⟩)
     go_roundw
     case rel=>
      refine⟨i,(i+j) / 2,f2',rfl,by congr 1,hmi,by omega,by omega,by omega,SWK.comp HWR.out p n rfl,?_⟩
      rw[<- HE.out]
      conv=>rhs;rw[bin]
      rw[if_pos s,C];rfl
     case measure=>simp[intOf];omega
   ·have hI:i=st:=by
     rw[<- HE.out];cases O with
     | zero=>rfl
     | succ O=>rw[bin,if_neg s]
    subst hI;have hlz:¬((i:Int)<(j:Int)):=by omega
    have U:i=j:=by omega
    subst U;clear q HWC;obtain⟨e,he⟩:∃e,e=(a+b) / 2+m-i:=⟨_,rfl⟩;have V:(e:Int)=((a:Int)+(b:Int)) / 2+(m:Int)-(i:Int):=by omega
    have HLT:∀(dj:Array α) (w:World),SWK enc k (W.alloc (.cells #[.func (.func g) #[] lb,.func (.func sf) #[] sb] (ρ.t 42))) blk off dj w->blk<w.heap.size:=fun dj w h=>h.lt p
    go_upto_region 40 with (fail)
    go_cut [145]from 138 (fun v w=>v=.bool (decide (i<m/\m<e))/\SWK enc k (W.alloc (.cells #[.func (.func g) #[] lb,.func (.func sf) #[] sb] (ρ.t 42))) blk off dk w)
    case first=>
     by_cases l:i<m
     ·have h1z:(i:Int)<(m:Int):=by omega
      by_cases u:m<e
      ·have h2z:(m:Int)<((a:Int)+(b:Int)) / 2+(m:Int)-(i:Int):=by omega
       go_wp2
       go_meet
       case rel=>exact⟨by rw[decide_eq_true (show i<m/\m<e from⟨l,u⟩)],HWR.out⟩
      ·have h2z:¬((m:Int)<((a:Int)+(b:Int)) / 2+(m:Int)-(i:Int)):=by omega
       go_wp2
       go_meet
       case rel=>exact⟨by rw[decide_eq_false (show ¬(i<m/\m<e)from fun h=>u h.2)],HWR.out⟩
     ·have h1z:¬((i:Int)<(m:Int)):=by omega
      go_wp2
      go_meet
      case rel=>exact⟨by rw[decide_eq_false (show ¬(i<m/\m<e)from fun h=>l h.1)],HWR.out⟩
    case rest=>
     obtain⟨rfl,D⟩:=hcut
     have c0:=Q.out dk wc D
     have c1:=R.out dk wc D
     have HW2:Hid (SWK enc k (W.alloc (.cells #[.func (.func g) #[] lb,.func (.func sf) #[] sb] (ρ.t 42))) blk off dk wc):=D
     clear D
     go_upto_if 145 with (fail)
     go_cut []from 23 (fun w=>SWK enc k (W.alloc (.cells #[.func (.func g) #[] lb,.func (.func sf) #[] sb] (ρ.t 42))) blk off (turned i m e dk) w)
     case first=>
      by_cases l:i<m/\m<e
      ·have z:decide (i<m/\m<e)=true:=decide_eq_true l;have hrot:=YM L42 hk (.func (.func g) #[] lb) sf sb i m e dk (by rw[I];exact hswap) (SWK.holds HW2.out p K rfl) (HLT _ _ HW2.out) l.1 l.2 (by omega) (by omega);rw[V]at hrot;go_wp2_with (go_at_fn (ρ.f 42);refine hrot.mono ?_;rintro e' w' ⟨rfl,n⟩)
       go_meet
       case rel=>
        have:turned i m e dk=rot m (e-i) (m-i) (e-m) dk:=by unfold turned;rw[if_pos l]
        rw[this]
        exact SWK.comp HW2.out p n (by rw[BL])
      ·have z:decide (i<m/\m<e)=false:=decide_eq_false l;go_wp2
       go_meet
       case rel=>
        have:turned i m e dk=dk:=by unfold turned;rw[if_neg l]
        rw[this]
        exact HW2.out
     case rest=>
      have E:SWK enc k (W.alloc (.cells #[.func (.func g) #[] lb,.func (.func sf) #[] sb] (ρ.t 42))) blk off (turned i m e dk) wc:=hcut
      have F:(turned i m e dk).size=d.size:=by
       unfold turned;split
       ·rw[BL];exact I
       ·exact I
      have HTD:Hid (symMerge lt (f+1) a m b dk=(fun o=>if (a+b) / 2<e/\e<b then symMerge lt f ((a+b) / 2) e b o else o) (if a<i/\i<(a+b) / 2 then symMerge lt f a i ((a+b) / 2) (turned i m e dk)else turned i m e dk)):=by
       show symMerge lt (f+1) a m b dk=_
       conv=>lhs;unfold symMerge
       rw[if_neg q1,if_neg q2,<- HST.out];subst he;rfl
      generalize turned i m e dk=r at *
      have c0:=Q.out r wc E
      have c1:=R.out r wc E
      have HW3:Hid (SWK enc k (W.alloc (.cells #[.func (.func g) #[] lb,.func (.func sf) #[] sb] (ρ.t 42))) blk off r wc):=E
      clear E hcut HW2 HWR
      go_upto_region 42 with (fail)
      go_cut [158]from 151 (fun v w=>v=.bool (decide (a<i/\i<(a+b) / 2))/\SWK enc k (W.alloc (.cells #[.func (.func g) #[] lb,.func (.func sf) #[] sb] (ρ.t 42))) blk off r w)
      case first=>
       by_cases l:a<i
       ·have h1z:(a:Int)<(i:Int):=by omega
        by_cases u:i<(a+b) / 2
        ·have h2z:(i:Int)<((a:Int)+(b:Int)) / 2:=by omega
         go_wp2
         go_meet
         case rel=>exact⟨by rw[decide_eq_true (show a<i/\i<(a+b) / 2 from⟨l,u⟩)],HW3.out⟩
        ·have h2z:¬((i:Int)<((a:Int)+(b:Int)) / 2):=by omega
         go_wp2
         go_meet
         case rel=>exact⟨by rw[decide_eq_false (show ¬(a<i/\i<(a+b) / 2)from fun h=>u h.2)],HW3.out⟩
       ·have h1z:¬((a:Int)<(i:Int)):=by omega
        go_wp2
        go_meet
        case rel=>exact⟨by rw[decide_eq_false (show ¬(a<i/\i<(a+b) / 2)from fun h=>l h.1)],HW3.out⟩
      case rest=>
       obtain⟨rfl,G⟩:=hcut
       have c0:=Q.out r wc G
       have c1:=R.out r wc G
       have HW4:Hid (SWK enc k (W.alloc (.cells #[.func (.func g) #[] lb,.func (.func sf) #[] sb] (ρ.t 42))) blk off r wc):=G
       clear G HW3
       go_upto_if 158 with (fail)
       go_cut []from 23 (fun w=>∃o:Array α,o.size=d.size/\o=(if a<i/\i<(a+b) / 2 then symMerge lt f a i ((a+b) / 2) r else r)/\SWK enc k (W.alloc (.cells #[.func (.func g) #[] lb,.func (.func sf) #[] sb] (ρ.t 42))) blk off o w)
       case first=>
        by_cases l:a<i/\i<(a+b) / 2
        ·have z:decide (a<i/\i<(a+b) / 2)=true:=decide_eq_true l;have hrec:=IH.out a i ((a+b) / 2) r wc (AB.out _ _ HW4.out F) F (by omega) l.1 l.2 (by omega);rw[hmid]at hrec;go_wp2_with (go_at_fn (ρ.f 30);refine hrec.mono ?_;rintro e' w' ⟨rfl,n⟩)
         go_meet
         case rel=>exact⟨_,(jL lt f a i ((a+b) / 2) r).trans F,by rw[if_pos l],SWK.comp HW4.out p n (jL lt f a i ((a+b) / 2) r)⟩
        ·have z:decide (a<i/\i<(a+b) / 2)=false:=decide_eq_false l;go_wp2
         go_meet
         case rel=>exact⟨r,F,by rw[if_neg l],HW4.out⟩
       case rest=>
        obtain⟨o,y,X,H⟩:=hcut
        have HD2:Hid _:=X
        have c0:=Q.out o wc H
        have c1:=R.out o wc H
        have HW5:Hid (SWK enc k (W.alloc (.cells #[.func (.func g) #[] lb,.func (.func sf) #[] sb] (ρ.t 42))) blk off o wc):=H
        clear H X HW4
        have fin:∀(w:World) (Y:Array α),Y.size=d.size->SWK enc k (W.alloc (.cells #[.func (.func g) #[] lb,.func (.func sf) #[] sb] (ρ.t 42))) blk off Y w->Y=(if (a+b) / 2<e/\e<b then symMerge lt f ((a+b) / 2) e b o else o)->SWK enc k W blk off (symMerge lt (f+1) a m b dk) w:=fun w Y l u h3=>by
         rw[HTD.out,<- HD2.out];show SWK enc k W blk off (if (a+b) / 2<e/\e<b then symMerge lt f ((a+b) / 2) e b o else o) w
         rw[<- h3];exact BE.out Y w u l
        have FIN:Hid _:=fin
        clear fin
        by_cases l:(a+b) / 2<e
        ·have h1z:((a:Int)+(b:Int)) / 2<((a:Int)+(b:Int)) / 2+(m:Int)-(i:Int):=by omega
         by_cases u:e<b
         ·have h2z:((a:Int)+(b:Int)) / 2+(m:Int)-(i:Int)<(b:Int):=by omega
          have hrec:=IH.out ((a+b) / 2) e b o wc (AB.out _ _ HW5.out y) y (by omega) l u hb;rw[hmid,V]at hrec;go_wp2_with (go_at_fn (ρ.f 30);refine hrec.mono ?_;rintro e' w' ⟨rfl,n⟩)
          go_end0
          exact⟨rfl,FIN.out _ _ ((jL lt f _ e b o).trans y) (SWK.comp HW5.out p n (jL lt f _ e b o)) (by rw[if_pos ⟨l,u⟩])⟩
         ·have h2z:¬(((a:Int)+(b:Int)) / 2+(m:Int)-(i:Int)<(b:Int)):=by omega
          go_wp2
          go_end0
          exact⟨rfl,FIN.out _ o y HW5.out (by rw[if_neg fun h=>u h.2])⟩
        ·have h1z:¬(((a:Int)+(b:Int)) / 2<((a:Int)+(b:Int)) / 2+(m:Int)-(i:Int)):=by omega
         go_wp2
         go_end0
         exact⟨rfl,FIN.out _ o y HW5.out (by rw[if_neg fun h=>l h.1])⟩
set_option maxHeartbeats 8000000 in
set_option maxRecDepth 100000 in
theorem Si(L:LaysGt.n30 P ρ)(N:∀x,(enc x).length=k)(lt:α->α->Bool)(g:Nat)(lb:Array Value)(sf:Nat)(sb:Array Value)(d:Array α)
  (eg:∀args w,(callFunc g args).run P w=.ok (.enter g args) w) (hless:gV P g lb enc k lt blk off d.size w0) (hswap:SwapSwapsK P sf sb enc k blk off d.size)
  (A:HoldsK enc k w0 blk off d) (hblk:blk<w0.heap.size) (O:d.size<4611686018427387904) (f:Nat)
  (ih:∀(a m b:Nat) (dk:Array α) (W:World),SWK enc k w0 blk off dk W->dk.size=d.size->b-a<=f->a<m->m<b->b<=d.size ->
   Calls P (ρ.f 30) #[.agg #[.func (.func g) #[] lb,.func (.func sf) #[] sb],.int .i64 a,.int .i64 m,.int .i64 b] W fun e w'=>e=.returned (.tuple #[])/\SWK enc k W blk off (symMerge lt f a m b dk) w')
  (a m b:Nat) (dk:Array α) (W:World) (M:SWK enc k w0 blk off dk W) (z:dk.size=d.size) (hf:b-a<=f+1) (Q:a<m) (R:m<b) (hb:b<=d.size) :
  Calls P (ρ.f 30) #[.agg #[.func (.func g) #[] lb,.func (.func sf) #[] sb],.int .i64 a,.int .i64 m,.int .i64 b] W fun e w'=>e=.returned (.tuple #[])/\SWK enc k W blk off (symMerge lt (f+1) a m b dk) w':=by
 have mixed:=L.mixed;have t0:=L.t0;have a0:=L.a0;have z0:=L.z0;have v0:=L.v0;have t3:=L.t3;have a3:=L.a3;have z3:=L.z3;have v3:=L.v3;have t4:=L.t4;have a4:=L.a4;have z4:=L.z4;have v4:=L.v4;have t26:=L.t26;have a26:=L.a26;have z26:=L.z26;have v26:=L.v26;have t38:=L.t38;have a38:=L.a38;have z38:=L.z38;have v38:=L.v38;have t42:=L.t42;have a42:=L.a42;have z42:=L.z42;have v42:=L.v42;have t47:=L.t47;have a47:=L.a47;have z47:=L.z47;have v47:=L.v47;have u42:=run_underlying L.t42;have L42:LaysGt.n42 P ρ:={ L with };have e42:∀args w,(callFunc (ρ.f 42) args).run P w=.ok (.enter (ρ.f 42) args) w:=enters_of L.f42 (by kernel_rfl) rfl;have e30:∀args w,(callFunc (ρ.f 30) args).run P w=.ok (.enter (ρ.f 30) args) w:=enters_of L.f30 (by kernel_rfl) rfl;have B:=M.alloc (.cells #[.func (.func g) #[] lb,.func (.func sf) #[] sb] (ρ.t 42));have u:blk<(W.alloc (.cells #[.func (.func g) #[] lb,.func (.func sf) #[] sb] (ρ.t 42))).heap.size:=B.lt hblk;have S:blk<W.heap.size:=M.lt hblk;have I:HoldsK enc k (W.alloc (.cells #[.func (.func g) #[] lb,.func (.func sf) #[] sb] (ρ.t 42))) blk off dk:=B.holds hblk A z;have cell0:∀(dj:Array α) (wr:World),SWK enc k (W.alloc (.cells #[.func (.func g) #[] lb,.func (.func sf) #[] sb] (ρ.t 42))) blk off dj wr->wr.cell? ⟨W.heap.size,0,none⟩=some (.func (.func g) #[] lb):=fun dj wr h=>by
  rw[h.cellAt (b:=W.heap.size) (by omega) (by rw[alloc_eq_grow,size_grow];simp)];simp
 have cell1:∀(dj:Array α) (wr:World),SWK enc k (W.alloc (.cells #[.func (.func g) #[] lb,.func (.func sf) #[] sb] (ρ.t 42))) blk off dj wr->wr.cell? ⟨W.heap.size,1,none⟩=some (.func (.func sf) #[] sb):=fun dj wr h=>by
  rw[h.cellAt (b:=W.heap.size) (by omega) (by rw[alloc_eq_grow,size_grow];simp)];simp
 have above:∀(dj:Array α) (wr:World),SWK enc k (W.alloc (.cells #[.func (.func g) #[] lb,.func (.func sf) #[] sb] (ρ.t 42))) blk off dj wr->dj.size=d.size->SWK enc k w0 blk off dj wr:=fun dj wr h H=>B.comp hblk h (by rw[H,z])
 have less:∀(dj:Array α) (wr:World) (i j:Nat),SWK enc k (W.alloc (.cells #[.func (.func g) #[] lb,.func (.func sf) #[] sb] (ρ.t 42))) blk off dj wr->dj.size=d.size->i<d.size->j<d.size ->
   Calls P g (#[.int .i64 i,.int .i64 j]++lb) wr fun e w'=>e=.returned (.bool (lt dj[i]! dj[j]!))/\SWK enc k wr blk off dj w':=fun dj wr i j h H hi hj=>(above dj wr h H).lays hless H i j hi hj
 have hHW:HoldsK enc k W blk off dk:=M.holds hblk A z;have below:∀(dj:Array α) (wr:World),SWK enc k (W.alloc (.cells #[.func (.func g) #[] lb,.func (.func sf) #[] sb] (ρ.t 42))) blk off dj wr->dj.size=d.size->SWK enc k W blk off dj wr:=fun dj wr h H=>SWK.comp (SWK.alloc (SWK.start hHW) _) S h (by rw[H,z])
 have BE:Hid _:=below;have C0:Hid _:=cell0;have C1:Hid _:=cell1;have AB:Hid _:=above;have LE:Hid _:=less;clear cell0 cell1 above less below;by_cases T:m-a=1
 ·have q1z:(m:Int)-(a:Int)=1:=by omega
  have C:Hid _:=A;have U:Hid _:=hless;clear A hless;go_enter L.f30,BodyGt.n30_ntmps ρ
  go_wp2
  go_loopw [8,9] (fun vi vj wr=>∃(i j q:Nat),vi=.int .i64 i/\vj=.int .i64 j/\m<=i/\i<=j/\j<=b/\j-i<=q/\SWK enc k (W.alloc (.cells #[.func (.func g) #[] lb,.func (.func sf) #[] sb] (ρ.t 42))) blk off dk wr/\bin (fun h=>lt dk[h]! dk[a]!) q i j=bin (fun h=>lt dk[h]! dk[a]!) (b+1) m b) (fun vi vj _=>(intOf vj).toNat-(intOf vi).toNat)
  case atStart=>exact⟨m,b,b+1,rfl,rfl,Nat.le_refl _,by omega,Nat.le_refl _,by omega,SWK.start I,rfl⟩
  case round=>
   obtain⟨i,j,q,rfl,rfl,D,V,E,X,l,J⟩:=hrel
   have c0:=C0.out dk wr l
   have HWR:Hid (SWK enc k (W.alloc (.cells #[.func (.func g) #[] lb,.func (.func sf) #[] sb] (ρ.t 42))) blk off dk wr):=l
   have HE:Hid _:=J
   clear J
   by_cases n:i<j
   ·have v:=LE.out dk wr ((i+j) / 2) a l z (by omega) (by omega);rw[show (((i+j) / 2:Nat):Int)=((i:Int)+(j:Int)) / 2 by omega]at v;obtain⟨f2',rfl⟩:∃f2',q=f2'+1:=⟨q-1,by omega⟩;clear l;cases p:lt dk[(i+j) / 2]! dk[a]! with
    | true=>
     rw[p]at v;go_wp2_with (go_at_fn g;refine v.mono ?_;rintro e w' ⟨rfl,r⟩)
     go_roundw
     case rel=>
      refine⟨(i+j) / 2+1,j,f2',by congr 1,rfl,by omega,by omega,E,by omega,SWK.comp HWR.out u r rfl,?_⟩
      rw[<- HE.out]
      conv=>rhs;rw[bin]
      rw[if_pos n,p];rfl
     case measure=>simp[intOf];omega
    | false=>
     rw[p]at v;go_wp2_with (go_at_fn g;refine v.mono ?_;rintro e w' ⟨rfl,r⟩)
     go_roundw
     case rel=>
      refine⟨i,(i+j) / 2,f2',rfl,by congr 1,D,by omega,by omega,by omega,SWK.comp HWR.out u r rfl,?_⟩
      rw[<- HE.out]
      conv=>rhs;rw[bin]
      rw[if_pos n,p];rfl
     case measure=>simp[intOf];omega
   ·have Y:bin (fun h=>lt dk[h]! dk[a]!) (b+1) m b=i:=by
     rw[<- HE.out];cases q with
     | zero=>rfl
     | succ q=>rw[bin,if_neg n]
    have Z:¬((i:Int)<(j:Int)):=by omega
    clear l;go_wp2
    go_loopw [11] (fun vx F=>∃(x:Nat) (dj:Array α),vx=.int .i64 x/\a<=x/\x<=i-1/\dj.size=d.size/\SWK enc k (W.alloc (.cells #[.func (.func g) #[] lb,.func (.func sf) #[] sb] (ρ.t 42))) blk off dj F/\up (i-1-x) x dj=up (i-1-a) a dk) (fun vx _=>i-(intOf vx).toNat)
    case atStart=>exact⟨a,dk,rfl,Nat.le_refl _,by omega,z,HWR.out,rfl⟩
    case round=>
     obtain⟨x,dj,rfl,hax,hxi,o,c,K⟩:=hrel
     have c1:=C1.out dj wr c
     have HW2:Hid (SWK enc k (W.alloc (.cells #[.func (.func g) #[] lb,.func (.func sf) #[] sb] (ρ.t 42))) blk off dj wr):=c
     have HU:Hid _:=K
     have s:=fun (x y:Nat) (hx:x<d.size) (hy:y<d.size)=>hswap wr dj ((AB.out dj wr c o).holds hblk C.out o) o x y hx hy
     clear c K
     by_cases hx1:x<i-1
     ·have G:=s x (x+1) (by omega) (by omega);rw[show ((x+1:Nat):Int)=(x:Int)+1 by omega]at G;clear s;go_wp2
      refine⟨⟨x+1,swp dj x (x+1),by congr 1,by omega,by omega,by rw[size_swp];exact o,SWK.swap HW2.out N u x (x+1) (by omega) (by omega),?_⟩,by simp[intOf];omega⟩;rw[<- HU.out,show i-1-x=(i-1-(x+1))+1 by omega];rfl
     ·have hxz:¬((x:Int)<(i:Int)-1):=by omega
      clear s;go_wp2
      refine bodyPost_ret (results_none rfl _ _ _) rfl ?_;refine⟨rfl,?_⟩;have e:=HU.out;rw[show i-1-x=0 by omega]at e;have e:dj=up (i-1-a) a dk:=e;unfold symMerge;rw[if_pos T,Y,<- e];exact BE.out dj _ HW2.out o
 ·have q1z:¬((m:Int)-(a:Int)=1):=by omega
  have q1b:((m:Int)-(a:Int)==1)=false:=by simpa using q1z
  by_cases q2:b-m=1
  ·have q2z:(b:Int)-(m:Int)=1:=by omega
   have C:Hid _:=A;have U:Hid _:=hless;clear A hless;go_enter L.f30,BodyGt.n30_ntmps ρ
   go_wp2
   go_loopw [12,13] (fun vi vj wr=>∃(i j q:Nat),vi=.int .i64 i/\vj=.int .i64 j/\a<=i/\i<=j/\j<=m/\j-i<=q/\SWK enc k (W.alloc (.cells #[.func (.func g) #[] lb,.func (.func sf) #[] sb] (ρ.t 42))) blk off dk wr/\bin (fun h=>!lt dk[m]! dk[h]!) q i j=bin (fun h=>!lt dk[m]! dk[h]!) (b+1) a m) (fun vi vj _=>(intOf vj).toNat-(intOf vi).toNat)
   case atStart=>exact⟨a,m,b+1,rfl,rfl,Nat.le_refl _,by omega,Nat.le_refl _,by omega,SWK.start I,rfl⟩
   case round=>
    obtain⟨i,j,q,rfl,rfl,D,V,E,X,l,J⟩:=hrel
    have c0:=C0.out dk wr l
    have HWR:Hid (SWK enc k (W.alloc (.cells #[.func (.func g) #[] lb,.func (.func sf) #[] sb] (ρ.t 42))) blk off dk wr):=l
    have HE:Hid _:=J
    clear J
    by_cases n:i<j
    ·have v:=LE.out dk wr m ((i+j) / 2) l z (by omega) (by omega);rw[show (((i+j) / 2:Nat):Int)=((i:Int)+(j:Int)) / 2 by omega]at v;obtain⟨f2',rfl⟩:∃f2',q=f2'+1:=⟨q-1,by omega⟩;clear l;cases p:lt dk[m]! dk[(i+j) / 2]! with
     | false=>
      rw[p]at v;go_wp2_with (go_at_fn g;refine v.mono ?_;rintro e w' ⟨rfl,r⟩)
      go_roundw
      case rel=>
       refine⟨(i+j) / 2+1,j,f2',by congr 1,rfl,by omega,by omega,E,by omega,SWK.comp HWR.out u r rfl,?_⟩
       rw[<- HE.out]
       conv=>rhs;rw[bin]
       rw[if_pos n,p];rfl
      case measure=>simp[intOf];omega
     | true=>
      rw[p]at v;go_wp2_with (go_at_fn g;refine v.mono ?_;rintro e w' ⟨rfl,r⟩)
      go_roundw
      case rel=>
       refine⟨i,(i+j) / 2,f2',rfl,by congr 1,D,by omega,by omega,by omega,SWK.comp HWR.out u r rfl,?_⟩
       rw[<- HE.out]
       conv=>rhs;rw[bin]
       rw[if_pos n,p];rfl
      case measure=>simp[intOf];omega
    ·have Y:bin (fun h=>!lt dk[m]! dk[h]!) (b+1) a m=i:=by
      rw[<- HE.out];cases q with
      | zero=>rfl
      | succ q=>rw[bin,if_neg n]
     have Z:¬((i:Int)<(j:Int)):=by omega
     clear l;go_wp2
     go_loopw [15] (fun vx F=>∃(x:Nat) (dj:Array α),vx=.int .i64 x/\i<=x/\x<=m/\dj.size=d.size/\SWK enc k (W.alloc (.cells #[.func (.func g) #[] lb,.func (.func sf) #[] sb] (ρ.t 42))) blk off dj F/\down (x-i) x dj=down (m-i) m dk) (fun vx _=>(intOf vx).toNat)
     case atStart=>exact⟨m,dk,rfl,by omega,Nat.le_refl _,z,HWR.out,rfl⟩
     case round=>
      obtain⟨x,dj,rfl,hax,hxi,o,c,K⟩:=hrel
      have c1:=C1.out dj wr c
      have HW2:Hid (SWK enc k (W.alloc (.cells #[.func (.func g) #[] lb,.func (.func sf) #[] sb] (ρ.t 42))) blk off dj wr):=c
      have HU:Hid _:=K
      have s:=fun (x y:Nat) (hx:x<d.size) (hy:y<d.size)=>hswap wr dj ((AB.out dj wr c o).holds hblk C.out o) o x y hx hy
      clear c K
      by_cases hx1:i<x
      ·have G:=s x (x-1) (by omega) (by omega);rw[show ((x-1:Nat):Int)=(x:Int)-1 by omega]at G;clear s;go_wp2
       refine⟨⟨x-1,swp dj x (x-1),by congr 1;omega,by omega,by omega,by rw[size_swp];exact o,SWK.swap HW2.out N u x (x-1) (by omega) (by omega),?_⟩,by simp[intOf];omega⟩;rw[<- HU.out,show x-i=(x-1-i)+1 by omega];rfl
      ·have hxz:¬((x:Int)>(i:Int)):=by omega
       clear s;go_wp2
       refine bodyPost_ret (results_none rfl _ _ _) rfl ?_;refine⟨rfl,?_⟩;have e:=HU.out;rw[show x-i=0 by omega]at e;have e:dj=down (m-i) m dk:=e;unfold symMerge;rw[if_neg T,if_pos q2,Y,<- e];exact BE.out dj _ HW2.out o
  ·exact VN L N lt g lb sf sb d eg hless hswap A hblk O f ih a m b dk W M z hf Q R hb T q2
theorem RZ(L:LaysGt.n30 P ρ)(h:∀x,(enc x).length=k)(lt:α->α->Bool)(g:Nat)(lb:Array Value)(sf:Nat)(sb:Array Value)(d:Array α)
  (eg:∀args w,(callFunc g args).run P w=.ok (.enter g args) w) (hless:gV P g lb enc k lt blk off d.size w0) (hswap:SwapSwapsK P sf sb enc k blk off d.size)
  (i:HoldsK enc k w0 blk off d) (hblk:blk<w0.heap.size) (c:d.size<4611686018427387904):∀(f a m b:Nat) (dk:Array α) (W:World),SWK enc k w0 blk off dk W->dk.size=d.size->b-a<=f->a<m->m<b->b<=d.size ->
   Calls P (ρ.f 30) #[.agg #[.func (.func g) #[] lb,.func (.func sf) #[] sb],.int .i64 a,.int .i64 m,.int .i64 b] W fun e w'=>e=.returned (.tuple #[])/\SWK enc k W blk off (symMerge lt f a m b dk) w':=by
 intro f;induction f with
 | zero=>intro a m b dk W _ _ j l n _;omega
 | succ f ih=>exact Si L h lt g lb sf sb d eg hless hswap i hblk c f ih
end Go.Proofs
/- The library's stable sort, walked: blocks of twenty, then merged two by two. -/
namespace Go.Sort
variable {α:Type} [Inhabited α] {lt:α->α->Bool}
def Blk(lt:α->α->Bool)(bs a n:Nat)(d:Array α):Prop:=∀t,SortedIn lt (a+t*bs) (min (a+t*bs+bs) n) d
theorem SortedIn.keep{a b lo hi:Nat}{d d':Array α}(h:SortedIn lt lo hi d)(c:PermIn a b d d')(e:hi<=a\/b<=lo):SortedIn lt lo hi d':=
 sN h fun t f g=>c.2.1 t (by omega)
theorem Blk.one{bs n j:Nat}{d d':Array α}(h:Blk lt bs 0 (j*bs) d)(a:PermIn (j*bs) n d d')(b:SortedIn lt (j*bs) n d')(f:j*bs<=n)(g:n<=j*bs+bs):Blk lt bs 0 n d':=fun t=>by
 rw[Nat.zero_add];rcases Nat.lt_trichotomy t j with q | q | q
 ·have e:(t+1)*bs<=j*bs:=Nat.mul_le_mul_right bs q;rw[Nat.add_mul,Nat.one_mul]at e;have:=h t;rw[Nat.zero_add]at this;rw[show min (t*bs+bs) n=min (t*bs+bs) (j*bs) by omega];exact this.keep a (by omega)
 ·subst q;rw[show min (t*bs+bs) n=n by omega];exact b
 ·have e:(j+1)*bs<=t*bs:=Nat.mul_le_mul_right bs q;rw[Nat.add_mul,Nat.one_mul]at e;exact fun x y i k c=>absurd c (by omega)
theorem Blk.next{bs n a b:Nat}{d d':Array α}(h:Blk lt bs a n d)(c:PermIn a b d d')(e:b=a+2*bs):Blk lt bs b n d':=fun t=>by
 have:=h (t+2);rw[show a+(t+2)*bs=b+t*bs by rw[Nat.add_mul,e];omega]at this;exact this.keep c (by omega)
theorem Iz{a b n:Nat}{d d' d'':Array α}(h:PermIn 0 n d d')(c:PermIn a b d' d'')(e:b<=n)(f:n<=d.size):PermIn 0 n d d'':=
 permIn_trans _ _ _ 0 n h (permIn_mono _ _ a b 0 n (Nat.zero_le _) e (by rw[h.1];exact f) c)
end Go.Sort
namespace Go.Proofs
open Go.Shelf Go.RowKit Go.Lib Go.Sort
variable {P:Program} {ρ:Ren} {α:Type} [Inhabited α] {enc:α->List Value} {k:Nat} {w0 w1 W W':World} {blk off:Nat} {dk dj:Array α}
set_option maxHeartbeats 8000000 in
set_option maxRecDepth 100000 in
theorem QR(L:LaysGt.n29 P ρ)(E:∀x,(enc x).length=k)(lt:α->α->Bool)(g:Nat)(lb:Array Value)(sf:Nat)(sb:Array Value)(a b:Nat)(d:Array α)
  (eg:∀args w,(callFunc g args).run P w=.ok (.enter g args) w) (hless:gV P g lb enc k lt blk off d.size W) (hswap:SwapSwapsK P sf sb enc k blk off d.size)
  (y:HoldsK enc k W blk off d) (hblk:blk<W.heap.size) (F:a<=b) (V:b<=d.size) (G:d.size<4611686018427387904) :
  Calls P (ρ.f 29) #[.agg #[.func (.func g) #[] lb,.func (.func sf) #[] sb],.int .i64 a,.int .i64 b] W fun e w'=>e=.returned (.tuple #[])/\SWK enc k W blk off (Sort.insertionSort lt d a b) w':=by
 have mixed:=L.mixed;have t0:=L.t0;have a0:=L.a0;have z0:=L.z0;have v0:=L.v0;have t3:=L.t3;have a3:=L.a3;have z3:=L.z3;have v3:=L.v3;have t4:=L.t4;have a4:=L.a4;have z4:=L.z4;have v4:=L.v4;have t26:=L.t26;have a26:=L.a26;have z26:=L.z26;have v26:=L.v26;have t38:=L.t38;have a38:=L.a38;have z38:=L.z38;have v38:=L.v38;have t42:=L.t42;have a42:=L.a42;have z42:=L.z42;have v42:=L.v42;have H:=run_underlying L.t42;have n:blk<(W.alloc (.cells #[.func (.func g) #[] lb,.func (.func sf) #[] sb] (ρ.t 42))).heap.size:=by rw[alloc_eq_grow,size_grow];omega
 have q:HoldsK enc k (W.alloc (.cells #[.func (.func g) #[] lb,.func (.func sf) #[] sb] (ρ.t 42))) blk off d:=by rw[alloc_eq_grow];exact holdsK_grow enc k W _ blk off d hblk y
 have r:gV P g lb enc k lt blk off d.size (W.alloc (.cells #[.func (.func g) #[] lb,.func (.func sf) #[] sb] (ρ.t 42))):=by rw[alloc_eq_grow];exact hless.grow hblk _
 have cell0:∀(dj:Array α) (wr:World),SWK enc k (W.alloc (.cells #[.func (.func g) #[] lb,.func (.func sf) #[] sb] (ρ.t 42))) blk off dj wr->wr.cell? ⟨W.heap.size,0,none⟩=some (.func (.func g) #[] lb):=fun dj wr h=>by
  rw[h.cellAt (b:=W.heap.size) (by omega) (by rw[alloc_eq_grow,size_grow];simp)];simp
 have cell1:∀(dj:Array α) (wr:World),SWK enc k (W.alloc (.cells #[.func (.func g) #[] lb,.func (.func sf) #[] sb] (ρ.t 42))) blk off dj wr->wr.cell? ⟨W.heap.size,1,none⟩=some (.func (.func sf) #[] sb):=fun dj wr h=>by
  rw[h.cellAt (b:=W.heap.size) (by omega) (by rw[alloc_eq_grow,size_grow];simp)];simp
 have less:∀(dj:Array α) (wr:World) (i j:Nat),SWK enc k (W.alloc (.cells #[.func (.func g) #[] lb,.func (.func sf) #[] sb] (ρ.t 42))) blk off dj wr->dj.size=d.size->i<d.size->j<d.size ->
   Calls P g (#[.int .i64 i,.int .i64 j]++lb) wr fun e w'=>e=.returned (.bool (lt dj[i]! dj[j]!))/\SWK enc k (W.alloc (.cells #[.func (.func g) #[] lb,.func (.func sf) #[] sb] (ρ.t 42))) blk off dj w':=fun dj wr i j h I hi J=>by
  refine (h.lays r I i j hi J).mono ?_;rintro e w' ⟨rfl,K⟩;exact⟨rfl,h.comp n K rfl⟩
 have M:Hid _:=cell0;have N:Hid _:=cell1;have LE:Hid _:=less;have SWp:Hid _:=hswap;have O:Hid (HoldsK enc k W blk off d):=y;have B:Hid (HoldsK enc k (W.alloc (.cells #[.func (.func g) #[] lb,.func (.func sf) #[] sb] (ρ.t 42))) blk off d):=q;clear cell0 cell1 less hless r hswap y q;go_enter L.f29,BodyGt.n29_ntmps ρ
 go_wp2
 go_loopw [6] (fun vi wr=>∃(i:Nat) (dk:Array α),vi=.int .i64 i/\a<i/\i<=b+1/\dk.size=d.size/\SWK enc k (W.alloc (.cells #[.func (.func g) #[] lb,.func (.func sf) #[] sb] (ρ.t 42))) blk off dk wr /\
   insOuter lt a b i dk=insOuter lt a b (a+1) d) (fun vi _=>b+1-(intOf vi).toNat)
 case atStart=>exact⟨a+1,d,by congr 1,by omega,by omega,rfl,SWK.start B.out,rfl⟩
 case round=>
  obtain⟨i,dk,rfl,Q,R,s,u,C⟩:=hrel
  have HO:Hid (insOuter lt a b i dk=insOuter lt a b (a+1) d):=C
  have HW:Hid (SWK enc k (W.alloc (.cells #[.func (.func g) #[] lb,.func (.func sf) #[] sb] (ρ.t 42))) blk off dk wr):=u
  clear C u
  by_cases o:i<b
  ·go_wp2
   go_loopw [7] (fun vj z=>∃(j:Nat) (dj:Array α),vj=.int .i64 j/\a<=j/\j<=i/\dj.size=d.size/\SWK enc k (W.alloc (.cells #[.func (.func g) #[] lb,.func (.func sf) #[] sb] (ρ.t 42))) blk off dj z /\
     insInner lt a j dj=insInner lt a i dk) (fun vj _=>(intOf vj).toNat)
   case atStart=>exact⟨i,dk,rfl,by omega,Nat.le_refl _,s,HW.out,rfl⟩
   case round=>
    obtain⟨j,dj,rfl,S,T,l,p,D⟩:=hrel
    have X:=M.out dj _ p
    have HW2:Hid _:=p
    have HI:Hid (insInner lt a j dj=insInner lt a i dk):=D
    clear p D
    by_cases A:a<j
    ·have v:=LE.out dj _ j (j-1) HW2.out l (by omega) (by omega);rw[show (((j-1:Nat):Int))=(j:Int)-1 by omega]at v;cases m:lt dj[j]! dj[j-1]! with
     | true=>
      rw[m]at v;go_wp2_with (go_at_fn g;refine v.mono ?_;rintro e w' ⟨rfl,c⟩;have Y:=N.out dj _ c;have U:=SWp.out _ dj (c.holds n B.out l) l j (j-1) (by omega) (by omega);rw[show (((j-1:Nat):Int))=(j:Int)-1 by omega]at U;have HWn:Hid _:=c;clear c)
      go_roundw
      case rel=>
       refine⟨j-1,swp dj j (j-1),by congr 1;omega,by omega,by omega,by rw[size_swp];exact l,SWK.swap HWn.out E n j (j-1) (by omega) (by omega),?_⟩
       rw[<- HI.out,insInner_go lt a j dj A m]
      case measure=>simp[intOf];omega
     | false=>
      rw[m]at v;go_wp2_with (go_at_fn g;refine v.mono ?_;rintro e w' ⟨rfl,c⟩;have HWn:Hid _:=c;clear c)
      go_roundw
      case rel=>exact⟨i+1,dj,by congr 1,by omega,by omega,l,HWn.out,by rw[<- HO.out,insOuter_go _ _ _ _ _ o,<- HI.out,insInner_stop _ _ _ _ (Or.inr m)]⟩
      case measure=>simp[intOf];omega
    ·go_wp2
     go_roundw
     case rel=>exact⟨i+1,dj,by congr 1,by omega,by omega,l,HW2.out,by rw[<- HO.out,insOuter_go _ _ _ _ _ o,<- HI.out,insInner_stop _ _ _ _ (Or.inl (by omega))]⟩
     case measure=>simp[intOf];omega
  ·go_wp2
   go_end0
   exact⟨rfl,by unfold Sort.insertionSort;rw[<- HO.out,insOuter_stop _ _ _ _ _ o];exact SWK.comp (SWK.alloc (SWK.start O.out) _) hblk HW.out s⟩
set_option maxHeartbeats 8000000 in
set_option maxRecDepth 100000 in
theorem XW(L:LaysGt.n15 P ρ)(hk:∀x,(enc x).length=k)(lt:α->α->Bool)(hS:SWO lt)(g:Nat)(lb:Array Value)(sf:Nat)(sb:Array Value)(d:Array α)
  (eg:∀args w,(callFunc g args).run P w=.ok (.enter g args) w) (hless:gV P g lb enc k lt blk off d.size W) (hswap:SwapSwapsK P sf sb enc k blk off d.size)
  (Q:HoldsK enc k W blk off d) (hblk:blk<W.heap.size) (hsz:d.size<1152921504606846976) :
  Calls P (ρ.f 15) #[.agg #[.func (.func g) #[] lb,.func (.func sf) #[] sb],.int .i64 d.size] W fun e w'=>
   e=.returned (.tuple #[])/\∃d',PermIn 0 d.size d d'/\SortedIn lt 0 d.size d'/\SWK enc k W blk off d' w':=by
 have mixed:=L.mixed;have t0:=L.t0;have a0:=L.a0;have z0:=L.z0;have v0:=L.v0;have t3:=L.t3;have a3:=L.a3;have z3:=L.z3;have v3:=L.v3;have t4:=L.t4;have a4:=L.a4;have z4:=L.z4;have v4:=L.v4;have t26:=L.t26;have a26:=L.a26;have z26:=L.z26;have v26:=L.v26;have t38:=L.t38;have a38:=L.a38;have z38:=L.z38;have v38:=L.v38;have t42:=L.t42;have a42:=L.a42;have z42:=L.z42;have v42:=L.v42;have t47:=L.t47;have a47:=L.a47;have z47:=L.z47;have v47:=L.v47;have u42:=run_underlying L.t42;have R:LaysGt.n29 P ρ:={ L with };have S:LaysGt.n30 P ρ:={ L with };have e29:∀args w,(callFunc (ρ.f 29) args).run P w=.ok (.enter (ρ.f 29) args) w:=enters_of L.f29 (by kernel_rfl) rfl;have e30:∀args w,(callFunc (ρ.f 30) args).run P w=.ok (.enter (ρ.f 30) args) w:=enters_of L.f30 (by kernel_rfl) rfl;have s:blk<(W.alloc (.cells #[.func (.func g) #[] lb,.func (.func sf) #[] sb] (ρ.t 42))).heap.size:=by rw[alloc_eq_grow,size_grow];omega
 have B:HoldsK enc k (W.alloc (.cells #[.func (.func g) #[] lb,.func (.func sf) #[] sb] (ρ.t 42))) blk off d:=by rw[alloc_eq_grow];exact holdsK_grow enc k W _ blk off d hblk Q
 have C:gV P g lb enc k lt blk off d.size (W.alloc (.cells #[.func (.func g) #[] lb,.func (.func sf) #[] sb] (ρ.t 42))):=by rw[alloc_eq_grow];exact hless.grow hblk _
 have cell0:∀(dj:Array α) (wr:World),SWK enc k (W.alloc (.cells #[.func (.func g) #[] lb,.func (.func sf) #[] sb] (ρ.t 42))) blk off dj wr->wr.cell? ⟨W.heap.size,0,none⟩=some (.func (.func g) #[] lb):=fun dj wr h=>by
  rw[h.cellAt (b:=W.heap.size) (by omega) (by rw[alloc_eq_grow,size_grow];simp)];simp
 have cell1:∀(dj:Array α) (wr:World),SWK enc k (W.alloc (.cells #[.func (.func g) #[] lb,.func (.func sf) #[] sb] (ρ.t 42))) blk off dj wr->wr.cell? ⟨W.heap.size,1,none⟩=some (.func (.func sf) #[] sb):=fun dj wr h=>by
  rw[h.cellAt (b:=W.heap.size) (by omega) (by rw[alloc_eq_grow,size_grow];simp)];simp
 have ins:∀(dj:Array α) (wr:World) (a b:Nat),SWK enc k (W.alloc (.cells #[.func (.func g) #[] lb,.func (.func sf) #[] sb] (ρ.t 42))) blk off dj wr->dj.size=d.size->a<=b->b<=d.size ->
   Calls P (ρ.f 29) #[.agg #[.func (.func g) #[] lb,.func (.func sf) #[] sb],.int .i64 a,.int .i64 b] wr fun e w'=>e=.returned (.tuple #[])/\∃d',PermIn a b dj d'/\SortedIn lt a b d'/\SWK enc k (W.alloc (.cells #[.func (.func g) #[] lb,.func (.func sf) #[] sb] (ρ.t 42))) blk off d' w':=fun dj wr a b h E F G=>by
  have hi:=insertionSort_holds hS dj a b F (by omega);refine (QR R hk lt g lb sf sb a b dj eg (by rw[E];exact h.aho C s E) (by rw[E];exact hswap) (h.holds s B E) (h.lt s) F (by omega) (by omega)).mono ?_;rintro e w' ⟨rfl,T⟩;exact⟨rfl,_,hi.1,hi.2,h.comp s T hi.1.1⟩
 have mrg:∀(dj:Array α) (wr:World) (a m b:Nat),SWK enc k (W.alloc (.cells #[.func (.func g) #[] lb,.func (.func sf) #[] sb] (ρ.t 42))) blk off dj wr->dj.size=d.size->a<m->m<b->b<=d.size->SortedIn lt a m dj->SortedIn lt m b dj ->
   Calls P (ρ.f 30) #[.agg #[.func (.func g) #[] lb,.func (.func sf) #[] sb],.int .i64 a,.int .i64 m,.int .i64 b] wr fun e w'=>e=.returned (.tuple #[])/\∃d',PermIn a b dj d'/\SortedIn lt a b d'/\SWK enc k (W.alloc (.cells #[.func (.func g) #[] lb,.func (.func sf) #[] sb] (ρ.t 42))) blk off d' w':=fun dj wr a m b h E H I G U V=>by
  have hi:=xu hS (b-a) a m b dj (Nat.le_refl _) H I (by omega) U V;refine (RZ S hk lt g lb sf sb d eg C hswap B s (by omega) (b-a) a m b dj wr h E (Nat.le_refl _) H I G).mono ?_;rintro e w' ⟨rfl,T⟩;exact⟨rfl,_,hi.1,hi.2,h.comp s T hi.1.1⟩
 have C0:Hid _:=cell0;have C1:Hid _:=cell1;have INS:Hid _:=ins;have MRG:Hid _:=mrg;have H0:Hid (HoldsK enc k W blk off d):=Q;clear cell0 cell1 ins mrg Q C hless hswap;go_enter L.f15,BodyGt.n15_ntmps ρ
 go_wp2
 go_loopw [5,6] (fun va vb wr=>∃(a j:Nat) (dj:Array α),va=.int .i64 a/\vb=.int .i64 ((a:Int)+20)/\a<=d.size/\a=j*20/\PermIn 0 d.size d dj/\Blk lt 20 0 (j*20) dj/\SWK enc k (W.alloc (.cells #[.func (.func g) #[] lb,.func (.func sf) #[] sb] (ρ.t 42))) blk off dj wr) (fun va _ _=>d.size-(intOf va).toNat)
 case atStart=>exact⟨0,0,d,rfl,rfl,Nat.zero_le _,rfl,permIn_refl _ _ _,fun t x y U V X=>absurd X (by omega),SWK.start B⟩
 case round=>
  obtain⟨a,j,dj,rfl,rfl,J,c,r,q,i⟩:=hrel
  have u:=r.1
  have c0:=C0.out dj wr i
  have c1:=C1.out dj wr i
  by_cases z:a+20<=d.size
  ·have hi:=INS.out dj wr a (a+20) i u (by omega) z;rw[show ((a+20:Nat):Int)=(a:Int)+20 by omega]at hi;have HP:Hid _:=r;have HB:Hid _:=q;have HJ:Hid _:=c;clear r q i c;go_wp2_with (go_at_fn (ρ.f 29);refine hi.mono ?_;rintro e w' ⟨rfl,d',l,n,o⟩)
   go_roundw
   case rel=>
    have c:=HJ.out
    have p:a+20=(j+1)*20:=by omega
    refine⟨a+20,j+1,d',by congr 1,by congr 1,z,p,Iz HP.out l z (Nat.le_refl _),?_,o⟩
    rw[<- p]
    rw[c]at l n ⊢
    exact Blk.one HB.out l n (by omega) (by omega)
   case measure=>simp[intOf];omega
  ·have hltz:¬((a:Int)+20<=(d.size:Int)):=by omega
   have hi:=INS.out dj wr a d.size i u J (Nat.le_refl _);have HP:Hid _:=r;have HB:Hid _:=q;have HJ:Hid _:=c;clear r q i c;go_wp2_with (go_at_fn (ρ.f 29);refine hi.mono ?_;rintro e w' ⟨rfl,O,l,n,o⟩)
   have K:PermIn 0 d.size d O:=Iz HP.out l (Nat.le_refl _) (Nat.le_refl _);have M:Blk lt 20 0 d.size O:=by
    have c:=HJ.out;rw[c]at l n;exact Blk.one HB.out l n (by omega) (by omega)
   have HP1:Hid _:=K;have HB1:Hid _:=M;have HW1:Hid (SWK enc k (W.alloc (.cells #[.func (.func g) #[] lb,.func (.func sf) #[] sb] (ρ.t 42))) blk off O w'):=o;clear K M o l n HP HB HJ u c0 c1 hi;go_loopw [4] (fun vb wr=>∃(bs:Nat) (dj:Array α),vb=.int .i64 bs/\20<=bs/\bs<=2*d.size+40/\PermIn 0 d.size d dj/\Blk lt bs 0 d.size dj/\SWK enc k (W.alloc (.cells #[.func (.func g) #[] lb,.func (.func sf) #[] sb] (ρ.t 42))) blk off dj wr) (fun vb _=>d.size-(intOf vb).toNat)
   case atStart=>exact⟨20,O,rfl,Nat.le_refl _,by omega,HP1.out,HB1.out,HW1.out⟩
   case round=>
    obtain⟨bs,dj,rfl,hbs,hbs2,r,q,i⟩:=hrel
    have HP:Hid _:=r
    have HB:Hid (Blk lt bs 0 d.size dj):=q
    have HW:Hid (SWK enc k (W.alloc (.cells #[.func (.func g) #[] lb,.func (.func sf) #[] sb] (ρ.t 42))) blk off dj wr):=i
    clear r q i
    by_cases hlt3:bs<d.size
    ·go_wp2
     go_loopw [5,6] (fun va vb wr=>∃(a j:Nat) (dk:Array α),va=.int .i64 a/\vb=.int .i64 ((a:Int)+2*(bs:Int))/\a<=d.size/\a=j*(2*bs)/\PermIn 0 d.size d dk/\Blk lt (2*bs) 0 (j*(2*bs)) dk/\Blk lt bs a d.size dk/\SWK enc k (W.alloc (.cells #[.func (.func g) #[] lb,.func (.func sf) #[] sb] (ρ.t 42))) blk off dk wr) (fun va _ _=>d.size-(intOf va).toNat)
     case atStart=>exact⟨0,0,dj,rfl,by congr 1;omega,Nat.zero_le _,by omega,HP.out,fun t x y U V X=>absurd X (by omega),HB.out,HW.out⟩
     case round=>
      obtain⟨a,j,dk,rfl,rfl,J,c,r,hdone,hrest,i⟩:=hrel
      have u:=r.1
      have c0:=C0.out dk wr i
      have c1:=C1.out dk wr i
      have v:=hrest 0
      have A:=hrest 1
      rw[show a+0*bs=a by omega]at v
      rw[show a+1*bs=a+bs by omega]at A
      have HP2:Hid _:=r
      have HD:Hid (Blk lt (2*bs) 0 (j*(2*bs)) dk):=hdone
      have HR:Hid (Blk lt bs a d.size dk):=hrest
      have HJ:Hid _:=c
      by_cases D:a+2*bs<=d.size
      ·rw[show min (a+bs) d.size=a+bs by omega]at v;rw[show min (a+bs+bs) d.size=a+2*bs by omega]at A;have N:=MRG.out dk wr a (a+bs) (a+2*bs) i u (by omega) (by omega) D v A;rw[show ((a+2*bs:Nat):Int)=(a:Int)+2*(bs:Int) by omega,show ((a+bs:Nat):Int)=(a:Int)+(bs:Int) by omega]at N;have hinz:(a:Int)+2*(bs:Int)<=(d.size:Int):=by omega
       clear r hdone hrest i c v A;go_wp2_with (go_at_fn (ρ.f 30);refine N.mono ?_;rintro e w' ⟨rfl,d',l,n,o⟩)
       go_roundw
       case rel=>
        have c:=HJ.out
        have p:a+2*bs=(j+1)*(2*bs):=by rw[Nat.add_mul,Nat.one_mul,<- c]
        refine⟨a+2*bs,j+1,d',by congr 1,by congr 1,D,p,Iz HP2.out l D (Nat.le_refl _),?_,HR.out.next l rfl,o⟩
        rw[<- p]
        rw[c]at l n ⊢
        exact Blk.one HD.out l n (by omega) (by omega)
       case measure=>simp[intOf];omega
      ·have hinz:¬((a:Int)+2*(bs:Int)<=(d.size:Int)):=by omega
       by_cases Y:a+bs<d.size
       ·have Z:(a:Int)+(bs:Int)<(d.size:Int):=by omega
        rw[show min (a+bs) d.size=a+bs by omega]at v;rw[show min (a+bs+bs) d.size=d.size by omega]at A;have N:=MRG.out dk wr a (a+bs) d.size i u (by omega) Y (Nat.le_refl _) v A;rw[show ((a+bs:Nat):Int)=(a:Int)+(bs:Int) by omega]at N;clear r hdone hrest i c v A;go_wp2_with (go_at_fn (ρ.f 30);refine N.mono ?_;rintro e w' ⟨rfl,d',l,n,o⟩)
        go_roundw
        case rel=>
         have c:=HJ.out
         refine⟨2*bs,d',by congr 1;omega,by omega,by omega,Iz HP2.out l (Nat.le_refl _) (Nat.le_refl _),?_,o⟩
         rw[c]at l n
         exact Blk.one HD.out l n (by omega) (by omega)
        case measure=>simp[intOf];omega
       ·have Z:¬((a:Int)+(bs:Int)<(d.size:Int)):=by omega
        rw[show min (a+bs) d.size=d.size by omega]at v;have R0:Hid _:=v;have HW2:Hid (SWK enc k (W.alloc (.cells #[.func (.func g) #[] lb,.func (.func sf) #[] sb] (ρ.t 42))) blk off dk wr):=i;clear r hdone hrest i c v A;go_wp2
        go_roundw
        case rel=>
         have c:=HJ.out
         refine⟨2*bs,dk,by congr 1;omega,by omega,by omega,HP2.out,?_,HW2.out⟩
         have v:=R0.out
         rw[c]at v
         exact Blk.one HD.out (permIn_refl _ _ _) v (by omega) (by omega)
        case measure=>simp[intOf];omega
    ·have hlz:¬((bs:Int)<(d.size:Int)):=by omega
     go_wp2
     go_end0
     have G:=HB.out 0;rw[show 0+0*bs=0 by omega,show min (0+bs) d.size=d.size by omega]at G;exact⟨rfl,dj,HP.out,G,SWK.comp (SWK.alloc (SWK.start H0.out) _) hblk HW.out HP.out.1⟩
end Go.Proofs
/- sort.SliceStable at elements of k cells, any length: a permutation, sorted. -/
namespace Go.Proofs
open Go.Shelf Go.RowKit Go.Lib Go.Sort
variable {P:Program} {ρ:Ren} {α:Type} [Inhabited α]
theorem SWK.grown{enc:α->List Value}{k:Nat}{w:World}{blk off:Nat}{d:Array α}(a:HoldsK enc k w blk off d)(os:Array Obj):SWK enc k w blk off d (grow w os):=
 ⟨0,os,by unfold sortWorldK;rw[show Sort.ahead w 0=w from rfl,putRowK_self enc k w blk off d a]⟩
theorem zu(L:LaysGt.n8 P ρ)(t e:TypeId)(i ie:TypeInfo)(hi:P.info? t=some i)(hd:i.desc=.slice e)(hpk:P.packed t=false)(hie:P.info? e=some ie)(ke:Nat)(hke:∀w,(Extern.Rtype.kind e).run P w=.ok ke w)
  (enc:α->List Value) (k:Nat) (hk:∀x,(enc x).length=k) (hs1:ie.size=k) (hagg:∀w,(isAgg e).run P w=.ok true w) (h1:∀x,∀v∈enc x,v.oneCell'=true) (lt:α->α->Bool) (hS:SWO lt) (g:Nat) (lb:Array Value)
  (eg:∀args w,(callFunc g args).run P w=.ok (.enter g args) w) (blk off c:Nat) (d:Array α) (h2:2<=d.size) (hsz:d.size<1152921504606846976)
  (f : Nat) (hf : P.funcs.findIdx? (·.name == "internal/reflectlite" ++ ".Swapper$" ++ toString (swapperK d.size ie ke)) = some f)
  (gS:Bool) (hx:∀args W,(callFunc f args).run P W=((Extern.ReflectliteSwapper.swap gS args).run P W).andThen fun v w'=>.ok (.value v) w')
  (w:World) (hless:gV P g lb enc k lt blk off d.size w) (hH:HoldsK enc k w blk off d) (hblk:blk<w.heap.size) :
  Calls P (ρ.f 8) #[.iface t (.slice (some ⟨blk,off,none⟩) d.size c),.func (.func g) #[] lb] w fun e w'=>
   e=.returned (.tuple #[])/\∃d',PermIn 0 d.size d d'/\SortedIn lt 0 d.size d'/\SWK enc k w blk off d' w':=by
 refine Any.sort_SliceStable_of_stable L t e i ie hi hd hpk hie ke hke _ d.size c (by omega) f hf (.func g) #[] lb w _ ?_;have hB:sliceBound P e ie ke (some ⟨blk,off,none⟩) d.size c = #[.slice (some ⟨blk,off,none⟩) d.size c,typeHandle P e]:=by
  unfold sliceBound;rw[if_neg (swapperK_gt _ _ _ h2)]
 have hW:stableWorld P ρ t (some ⟨blk,off,none⟩) d.size c w=grow w #[.cells #[.slice (some ⟨blk,off,none⟩) d.size c] t,.cells #[.pointer (some ⟨P.globals.size,t,none⟩),.pointer (some ⟨w.heap.size,0,none⟩),.int .u64 151] (ρ.t 36)]:=by
  unfold stableWorld;rw[alloc_eq_grow,alloc_eq_grow,grow_grow];rfl
 generalize (#[.cells #[.slice (some ⟨blk,off,none⟩) d.size c] t,.cells #[.pointer (some ⟨P.globals.size,t,none⟩),.pointer (some ⟨w.heap.size,0,none⟩),.int .u64 151] (ρ.t 36)]:Array Obj)=os0 at hW;rw[hB,hW];have hp:=XW (P:=P) (ρ:=ρ) (W:=grow w os0) { L with } hk lt hS g lb f _ d eg (hless.grow hblk os0)
  (swapSwapsK_of_literal gS f hx e ie hie enc k hk hs1 hagg h1 blk off d.size c) (holdsK_grow enc k w _ blk off d hblk hH) (by rw[size_grow];omega) hsz
 refine hp.mono ?_;rintro e w' ⟨rfl,d',p1,p2,hw⟩;exact⟨rfl,d',p1,p2,SWK.comp (SWK.grown hH os0) hblk hw p1.1⟩
end Go.Proofs
