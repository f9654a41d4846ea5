import Derived.Test.YtjbajpfonnnfoaaGreatDoorRenX
import Derived.Shelf.GgSortFunc.LotD
import Derived.Sort.Walk11
import Derived.Shelf.SlSortFuncK.PartialInsertionK
import Derived.Sort.WalkC4
set_option linter.unusedSimpArgs false
set_option linter.unusedVariables false
/- Heap sort, at elements of k cells, with a 'less' that may lay boxes of its own; a function's own view of its box. -/
namespace Go.Proofs
open Go.Shelf Go.RowKit Go.Lib Go.Sort
variable {P:Program} {ρ:Ren} {α:Type} [Inhabited α] {enc:α->List Value} {k:Nat} {w0 w1 W W':World} {blk off:Nat} {dk dj d:Array α} {lt:α->α->Bool} {g sf:Nat} {lb sb:Array Value} {T:TypeId}
structure Bx(P:Program)(enc:α->List Value)(k:Nat)(lt:α->α->Bool)(g:Nat)(lb:Array Value)(sf:Nat)(sb:Array Value)(blk off n:Nat)(W:World)(S:Array α->World->Prop):Prop where
 c0:∀ {dj:Array α} {wr:World},S dj wr->wr.cell? ⟨W.heap.size,0,none⟩=some (.func (.func g) #[] lb)
 c1:∀ {dj:Array α} {wr:World},S dj wr->wr.cell? ⟨W.heap.size,1,none⟩=some (.func (.func sf) #[] sb)
 less:∀ {dj:Array α} {wr:World} (i j:Nat),S dj wr->dj.size=n->i<n->j<n->Calls P g (#[.int .i64 i,.int .i64 j]++lb) wr λe w'=>e=.returned (.bool (lt dj[i]! dj[j]!))/\S dj w'
 swap:∀ {dj:Array α} {wr:World} (i j:Nat),S dj wr->dj.size=n->i<n->j<n->∃w',(callFunc sf (#[.int .i64 i,.int .i64 j]++sb)).run P wr=.ok (.value (.tuple #[])) w'/\S (swp dj i j) w'
 fin:∀ {dj:Array α} {wr:World},S dj wr->dj.size=n->SWK enc k W blk off dj wr
 at':∀ {dj:Array α} {wr:World},S dj wr->dj.size=n->kF P enc k lt g lb sf sb blk off dj wr
 comp:∀ {dj di:Array α} {wr wr':World},S dj wr->SWK enc k wr blk off di wr'->di.size=dj.size->S di wr'
theorem kF.bx(h:kF P enc k lt g lb sf sb blk off d W)(T:TypeId):∃S:Array α->World->Prop,Bx P enc k lt g lb sf sb blk off d.size W S/\S d (W.alloc (iK g lb sf sb T)):=
 have D:=h.dt T
 ⟨λdk wr=>SWK enc k (W.alloc (iK g lb sf sb T)) blk off dk wr,⟨λh=>D.c0 _ _ h,λh=>D.c1 _ _ h,λi j h=>D.less _ _ i j h,λi j h=>D.swap _ _ i j h,λh=>D.fin _ _ h,λh=>D.at' _ _ h,λh=>D.comp _ _ _ _ h⟩,SWK.start (h.box _).H⟩
set_option maxHeartbeats 4000000 in
set_option maxRecDepth 1000000 in
theorem UU(L:LaysGg.n27 P ρ)(a b:Nat)(h:kF P enc k lt g lb sf sb blk off d W)(o:a<=b)(x:b<=d.size) :
  Calls P (ρ.f 27) #[.agg #[.func (.func g) #[] lb,.func (.func sf) #[] sb],.int .i64 a,.int .i64 b] W λe w'=>e=.returned (.tuple #[])/\SWK enc k W blk off (heapSort lt d a b) w':=by
 have mixed:=L.mixed;have t0:=L.t0;have a0:=L.a0;have z0:=L.z0;have v0:=L.v0;have t3:=L.t3;have a3:=L.a3;have z3:=L.z3;have v3:=L.v3;have t4:=L.t4;have a4:=L.a4;have z4:=L.z4;have v4:=L.v4;have t26:=L.t26;have a26:=L.a26;have z26:=L.z26;have v26:=L.v26;have t37:=L.t37;have a37:=L.a37;have z37:=L.z37;have v37:=L.v37;have t44:=L.t44;have a44:=L.a44;have z44:=L.z44;have v44:=L.v44;have y:=run_underlying L.t44;have z:∀args w,(callFunc (ρ.f 34) args).run P w=.ok (.enter (ρ.f 34) args) w:=enters_of L.f34 (by kernel_rfl) rfl;have ecast:((b-a:Nat):Int)=(b:Int)-(a:Int):=by omega
 have A:=h.sz;obtain⟨S,n,u⟩:=h.bx (ρ.t 44);have HD:Hid _:=n;have B:Hid _:=u;have ss:∀(lo hi:Nat) (dk:Array α),(siftDown lt hi a lo dk).size=dk.size:=λlo hi dk=>size_siftDown lt _ _ _ _ _ (aD _)
 have SI:Hid (∀(lo hi:Nat) (dk:Array α) (wr:World),S dk wr->dk.size=d.size->lo<=hi->a+hi<=d.size ->
   Calls P (ρ.f 34) #[.agg #[.func (.func g) #[] lb,.func (.func sf) #[] sb],.int .i64 lo,.int .i64 hi,.int .i64 a] wr λe w'=>e=.returned (.tuple #[])/\S (siftDown lt hi a lo dk) w'):=λlo hi dk wr v p C x=>
  (UR (P:=P) (ρ:=ρ) { L with } lo hi a (n.at' v p) C (by omega)).mono λe w' ⟨D,q⟩=>⟨D,n.comp v q (ss lo hi dk)⟩
 clear n u h;go_enter L.f27,BodyGg.n27_ntmps ρ
 go_wp2
 go_loopg [9] ((b-a-1) / 2+1) (λkx E wr=>E=.int .i64 ((kx:Int)-1)/\kx<=(b-a-1) / 2+1/\∃(dk:Array α),dk.size=d.size/\Hid (S dk wr)/\Hid (heapBuild lt (b-a) a kx dk=heapBuild lt (b-a) a ((b-a-1) / 2+1) d))
 case atStart=>exact⟨by rw[half_start o],aD _,d,rfl,B,rfl⟩
 case round=>
  obtain⟨rfl,m,dk,l,HW,HE⟩:=hrel
  have c0:=HD.out.c0 HW.out
  have c1:=HD.out.c1 HW.out
  cases gk with
  | zero=>
   have F:dk=heapBuild lt (b-a) a ((b-a-1) / 2+1) d:=HE.out
   clear HE m
   go_wp2
   go_loopg [10] (b-a) (λkx r s=>r=.int .i64 ((kx:Int)-1)/\kx<=b-a/\∃(dj:Array α),dj.size=d.size/\Hid (S dj s)/\Hid (heapPop lt a kx dj=heapPop lt a (b-a) dk))
   case atStart=>exact⟨by rw[ecast],aD _,dk,l,HW,rfl⟩
   case round=>
    clear HW c0 c1
    obtain⟨rfl,m,dj,i,HW,HE2⟩:=hrel
    have c0:=HD.out.c0 HW.out
    have c1:=HD.out.c1 HW.out
    cases gk with
    | zero=>
     go_wp2
     go_end0
     have e:dj=heapSort lt d a b:=by rw[heapSort,<- F,<- HE2.out];rfl
     rw[<- e]
     exact⟨rfl,HD.out.fin HW.out i⟩
    | succ kx=>
     obtain⟨w2,p,j⟩:=HD.out.swap a (a+kx) HW.out i (by omega) (by omega)
     rw[show ((a+kx:Nat):Int)=(a:Int)+(kx:Int) by omega]at p
     have c0':=HD.out.c0 j
     have c1':=HD.out.c1 j
     have hcall:=SI.out 0 kx _ w2 j (by rw[size_swp];exact i) (Nat.zero_le _) (by omega)
     clear j
     go_wp2_with (go_at_fn (ρ.f 34);refine hcall.mono ?_;rintro e w1 ⟨rfl,c⟩;have HW1:Hid _:=c;clear c)
     go_roundg kx
     case measure=>omega
     case rel=>exact⟨by simp,by omega,siftDown lt kx a 0 (swp dj a (a+kx)),by rw[ss,size_swp,i],HW1,HE2⟩
  | succ kx=>
   have hcall:=SI.out kx (b-a) dk wr HW.out l (by omega) (by omega)
   rw[ecast]at hcall
   go_wp2_with (go_at_fn (ρ.f 34);refine hcall.mono ?_;rintro e w1 ⟨rfl,c⟩;have HW1:Hid _:=c;clear c)
   go_roundg kx
   case measure=>omega
   case rel=>exact⟨by simp,by omega,siftDown lt (b-a) a kx dk,by rw[ss,l],HW1,HE⟩
end Go.Proofs
/- Medians and the pivot, at elements of k cells, with a 'less' that may lay boxes of its own. -/
namespace Go.Proofs
open Go.Shelf Go.RowKit Go.Lib Go.Sort
variable {P:Program} {ρ:Ren} {α:Type} [Inhabited α] {enc:α->List Value} {k:Nat} {w0 w1 w2 w W W':World} {blk off cb co s s0 t:Nat} {dk dj d:Array α} {lt:α->α->Bool} {g sf:Nat} {lb sb:Array Value} {T:TypeId}
theorem SWK.plain(h:HoldsK enc k W blk off d)(a:SWK enc k W blk off d w):∃n os,w=grow (Sort.ahead W n) os:=by
 obtain⟨n,os,rfl⟩:=a;exact⟨n,os,by unfold sortWorldK;rw[putRowK_self enc k _ blk off d (holdsK_ahead enc k W n blk off d h)]⟩
def CW(W:World)(cb co s:Nat)(w:World):Prop:=∃n os,w=sortWorld (Value.int .i64) W cb co n (one s) os
theorem CW.start(a:Holds (Value.int .i64) W cb co (one s)):CW W cb co s W:=⟨0,#[],(sortWorld_start _ _ cb co _ a).symm⟩
theorem CW.trans(h:CW W cb co s w1)(a:cb<W.heap.size)(b:CW w1 cb co t w2):CW W cb co t w2:=by
 obtain⟨n,os,rfl⟩:=h;obtain⟨n',os',rfl⟩:=b;exact⟨_,_,sortWorld_on _ _ cb co n n' _ _ os os' a rfl⟩
theorem CW.holds(h:CW W cb co s w)(b:Holds (Value.int .i64) W cb co (one s0))(a:cb<W.heap.size):Holds (Value.int .i64) w cb co (one s):=by
 obtain⟨n,os,rfl⟩:=h;exact holds_sortWorld _ _ cb co n (one s0) _ os a b rfl
theorem CW.small(h:CW W cb co s w)(a:cb<W.heap.size):cb<w.heap.size:=by
 obtain⟨n,os,rfl⟩:=h;exact lt_sortWorld _ _ cb co n _ os a
theorem CW.grown(a:Holds (Value.int .i64) W cb co (one s))(h:∃n os,w=grow (Sort.ahead W n) os):CW W cb co s w:=by
 obtain⟨n,os,rfl⟩:=h;exact⟨n,os,by unfold sortWorld;rw[putRow_self _ _ _ _ _ (holds_ahead _ W n cb co _ a)]⟩
theorem CW.set(a:Holds (Value.int .i64) W cb co (one s))(t:Nat):CW W cb co t (W.setCell ⟨cb,co,none⟩ (.int .i64 t)):=
 ⟨0,#[],by unfold sortWorld;rw[<- one_set (holds_ahead _ W 0 cb co _ a) t,grow_empty,ahead_zero]⟩
theorem CW.alloc{o:Obj}(h:CW (W.alloc o) cb co s w)(a:cb<W.heap.size):CW W cb co s w:=by
 obtain⟨n,os,rfl⟩:=h;exact⟨_,_,sortWorld_alloc _ W _ cb co _ _ _ a⟩
theorem CW.cellAt{b o:Nat}(h:CW W cb co s w)(c:b≠cb)(a:b<W.heap.size):w.cell? ⟨b,o,none⟩=W.cell? ⟨b,o,none⟩:=by
 obtain⟨n,os,rfl⟩:=h;unfold sortWorld;rw[cell?_grow _ _ _ (by show b<(putRow _ _ _ _ _).heap.size;rw[size_putRow];exact a),cell?_putRow_other _ _ cb co _ _ (Or.inl c)];rfl
theorem SWK.cw(h:SWK enc k w0 blk off d W)(a:w0.heap.size<=cb)(c:CW W cb co s w):SWK enc k w0 blk off d w:=by
 obtain⟨m,b,rfl⟩:=h;obtain⟨n,os,rfl⟩:=c;unfold sortWorld sortWorldK;rw[ahead_grow];obtain⟨os',_,e⟩:=putRow_grow_new (Value.int .i64) (Sort.ahead (putRowK enc k (Sort.ahead w0 m) blk off d) n) b cb co (one s) (by show (putRowK enc k (Sort.ahead w0 m) blk off d).heap.size<=cb;rw[size_putRowK];exact a);rw[e,grow_grow];exact⟨m+n,_,by unfold sortWorldK;rw[<- putRowK_drewN enc k w0 m n blk off d];rfl⟩
set_option maxHeartbeats 1000000 in
set_option maxRecDepth 100000 in
theorem Zy(L:LaysGg.n39 P ρ)(a b cb co s:Nat)(h:kF P enc k lt g lb sf sb blk off d W)(r:a<d.size)(u:b<d.size)(n:Holds (Value.int .i64) W cb co (one s))(j:cb<W.heap.size)(x:s<4611686018427387904) :
  Calls P (ρ.f 39) #[.agg #[.func (.func g) #[] lb,.func (.func sf) #[] sb],.int .i64 a,.int .i64 b,.pointer (some ⟨cb,co,none⟩)] W λe w'=>
   e=.returned (.tuple #[.int .i64 (order2 lt d a b s).1,.int .i64 (order2 lt d a b s).2.1])/\CW W cb co (order2 lt d a b s).2.2 w':=by
 have mixed:=L.mixed;have t0:=L.t0;have a0:=L.a0;have z0:=L.z0;have v0:=L.v0;have t3:=L.t3;have a3:=L.a3;have z3:=L.z3;have v3:=L.v3;have t4:=L.t4;have a4:=L.a4;have z4:=L.z4;have v4:=L.v4;have t26:=L.t26;have a26:=L.a26;have z26:=L.z26;have v26:=L.v26;have t37:=L.t37;have a37:=L.a37;have z37:=L.z37;have v37:=L.v37;have t44:=L.t44;have a44:=L.a44;have z44:=L.z44;have v44:=L.v44;have t64:=L.t64;have a64:=L.a64;have z64:=L.z64;have v64:=L.v64;have v:=run_underlying L.t44;have eg:=h.eg;obtain⟨S,o,l⟩:=h.bx (ρ.t 44);have m:=o.less b a l rfl u r;have HC:Hid (∀w',S d w'->CW W cb co s w'):=λw' w=>CW.grown n (SWK.plain h.H (o.fin w rfl))
 have HS:Hid _:=n;clear o l h n;go_enter L.f39,BodyGg.n39_ntmps ρ
 cases i:lt d[b]! d[a]! with
 | true=>
  rw[i]at m;have p:order2 lt d a b s=(b,a,s+1):=by simp[order2,i]
  go_wp2_with (go_at_fn g;refine m.mono ?_;rintro e w' ⟨rfl,c⟩;have hc:=HC.out _ c;obtain⟨cs,fs⟩:=one_cell (hc.holds HS.out j);have HC':Hid (CW W cb co s w'):=hc;clear c hc)
  go_ret2
  rw[p];have q:=CW.set (HC'.out.holds HS.out j) (s+1);rw[show ((s+1:Nat):Int)=(s:Int)+1 by omega]at q;exact⟨rfl,HC'.out.trans j q⟩
 | false=>
  rw[i]at m;have p:order2 lt d a b s=(a,b,s):=by simp[order2,i]
  go_wp2_with (go_at_fn g;refine m.mono ?_;rintro e w' ⟨rfl,c⟩;have hc:=HC.out _ c;have HC':Hid (CW W cb co s w'):=hc;clear c hc)
  go_ret2
  rw[p];exact⟨rfl,HC'.out⟩
set_option maxHeartbeats 1000000 in
set_option maxRecDepth 100000 in
theorem ND(L:LaysGg.n38 P ρ)(a b c cb co s:Nat)(h:kF P enc k lt g lb sf sb blk off d w0)(D:SWK enc k w0 blk off d W)(E:a<d.size)(F:b<d.size)(hc:c<d.size)
  (G:Holds (Value.int .i64) W cb co (one s)) (p:w0.heap.size<=cb) (q:cb<W.heap.size) (S:s+3<4611686018427387904) :
  Calls P (ρ.f 38) #[.agg #[.func (.func g) #[] lb,.func (.func sf) #[] sb],.int .i64 a,.int .i64 b,.int .i64 c,.pointer (some ⟨cb,co,none⟩)] W λe w'=>
   e=.returned (.int .i64 (median lt d a b c s).1)/\CW W cb co (median lt d a b c s).2 w':=by
 have mixed:=L.mixed;have t0:=L.t0;have a0:=L.a0;have z0:=L.z0;have v0:=L.v0;have t3:=L.t3;have a3:=L.a3;have z3:=L.z3;have v3:=L.v3;have t4:=L.t4;have a4:=L.a4;have z4:=L.z4;have v4:=L.v4;have t26:=L.t26;have a26:=L.a26;have z26:=L.z26;have v26:=L.v26;have t37:=L.t37;have a37:=L.a37;have z37:=L.z37;have v37:=L.v37;have t44:=L.t44;have a44:=L.a44;have z44:=L.z44;have v44:=L.v44;have t64:=L.t64;have a64:=L.a64;have z64:=L.z64;have v64:=L.v64;have t67:=L.t67;have a67:=L.a67;have z67:=L.z67;have v67:=L.v67;have H:=run_underlying L.t44;have I:∀args w,(callFunc (ρ.f 39) args).run P w=.ok (.enter (ρ.f 39) args) w:=enters_of L.f39 (by kernel_rfl) rfl;have y:=order2_lt' lt d s E F;have T:=order2_swaps' lt d a b s;have J:=order2_lt' lt d (order2 lt d a b s).2.2 y.2 hc;have s2:=order2_swaps' lt d (order2 lt d a b s).2.1 c (order2 lt d a b s).2.2;have r:=D.alloc (iK g lb sf sb (ρ.t 44));have n:Holds (Value.int .i64) (W.alloc (iK g lb sf sb (ρ.t 44))) cb co (one s):=by rw[alloc_eq_grow];exact holds_grow _ W _ cb co _ q G
 have o:cb<(W.alloc (iK g lb sf sb (ρ.t 44))).heap.size:=by rw[alloc_eq_grow,size_grow];omega
 obtain⟨C,i⟩:∃C:Nat->World->Prop,∀t w,C t w↔CW (W.alloc (iK g lb sf sb (ρ.t 44))) cb co t w:=⟨_,λ_ _=>Iff.rfl⟩;have step:∀(t a' b':Nat) (w:World),C t w->a'<d.size->b'<d.size->t<4611686018427387904 ->
   Calls P (ρ.f 39) #[.agg #[.func (.func g) #[] lb,.func (.func sf) #[] sb],.int .i64 a',.int .i64 b',.pointer (some ⟨cb,co,none⟩)] w λe w'=>
    e=.returned (.tuple #[.int .i64 (order2 lt d a' b' t).1,.int .i64 (order2 lt d a' b' t).2.1])/\C (order2 lt d a' b' t).2.2 w':=λt a' b' w j z A K=>
  (Zy (P:=P) (ρ:=ρ) { L with } a' b' cb co t (h.on (r.cw p ((i _ _).1 j)) rfl) z A (((i _ _).1 j).holds n o) (((i _ _).1 j).small o) K).mono
   λ_ _ ⟨M,B⟩=>⟨M,(i _ _).2 (((i _ _).1 j).trans o B)⟩
 have N:Hid (C s (W.alloc (iK g lb sf sb (ρ.t 44)))):=(i _ _).2 (CW.start n);have u:Hid (∀t w,C t w->w.cell? ⟨W.heap.size,0,none⟩=some (.func (.func g) #[] lb)):=λt w j=>by
  rw[((i _ _).1 j).cellAt (by omega) (by rw[alloc_eq_grow,size_grow];simp)];simp
 have v:Hid (∀t w,C t w->w.cell? ⟨W.heap.size,1,none⟩=some (.func (.func sf) #[] sb)):=λt w j=>by
  rw[((i _ _).1 j).cellAt (by omega) (by rw[alloc_eq_grow,size_grow];simp)];simp
 have ST:Hid _:=step;have FN:Hid (∀t w,C t w->CW W cb co t w):=λt w j=>((i _ _).1 j).alloc q
 clear G n h D r step i;go_enter L.f38,BodyGg.n38_ntmps ρ
 go_wp2_with (go_at_fn_of (ρ.f 39) (Value.int .i64 (b:Int));refine (ST.out s a b _ N.out E F (by omega)).mono ?_;rintro e w1 ⟨rfl,l⟩;have U:=u.out _ _ l;have V:=v.out _ _ l;have O:Hid _:=l;clear l)
 go_wp2_with (go_at_fn_of (ρ.f 39) (Value.int .i64 (c:Int));refine (ST.out _ _ c _ O.out y.2 hc (by omega)).mono ?_;rintro e w2 ⟨rfl,m⟩;have X:=u.out _ _ m;have Y:=v.out _ _ m;have Q:Hid _:=m;clear m)
 go_wp2_with (go_at_fn_of (ρ.f 39) (Value.int .i64 ((order2 lt d a b s).1:Int));refine (ST.out _ _ _ _ Q.out y.1 J.1 (by omega)).mono ?_;rintro e w3 ⟨rfl,x⟩;have R:Hid _:=x;clear x)
 go_ret
 exact⟨rfl,FN.out _ _ R.out⟩
set_option maxHeartbeats 1000000 in
set_option maxRecDepth 100000 in
theorem D6(L:LaysGg.n37 P ρ)(a cb co s:Nat)(h:kF P enc k lt g lb sf sb blk off d w0)(l:SWK enc k w0 blk off d W)(o:1<=a)(j:a+1<d.size)
  (m:Holds (Value.int .i64) W cb co (one s)) (b:w0.heap.size<=cb) (c:cb<W.heap.size) (p:s+3<4611686018427387904) :
  Calls P (ρ.f 37) #[.agg #[.func (.func g) #[] lb,.func (.func sf) #[] sb],.int .i64 a,.pointer (some ⟨cb,co,none⟩)] W λe w'=>
   e=.returned (.int .i64 (medianAdjacent lt d a s).1)/\CW W cb co (medianAdjacent lt d a s).2 w':=by
 have mixed:=L.mixed;have t0:=L.t0;have a0:=L.a0;have z0:=L.z0;have v0:=L.v0;have t3:=L.t3;have a3:=L.a3;have z3:=L.z3;have v3:=L.v3;have t4:=L.t4;have a4:=L.a4;have z4:=L.z4;have v4:=L.v4;have t26:=L.t26;have a26:=L.a26;have z26:=L.z26;have v26:=L.v26;have t37:=L.t37;have a37:=L.a37;have z37:=L.z37;have v37:=L.v37;have t44:=L.t44;have a44:=L.a44;have z44:=L.z44;have v44:=L.v44;have t64:=L.t64;have a64:=L.a64;have z64:=L.z64;have v64:=L.v64;have t67:=L.t67;have a67:=L.a67;have z67:=L.z67;have v67:=L.v67;have q:=run_underlying L.t44;have r:∀args w,(callFunc (ρ.f 38) args).run P w=.ok (.enter (ρ.f 38) args) w:=enters_of L.f38 (by kernel_rfl) rfl;have u:=h.sz;have n:=ND (P:=P) (ρ:=ρ) { L with } (a-1) a (a+1) cb co s h (l.alloc (iK g lb sf sb (ρ.t 44))) (by omega) (by omega) j
  (by rw[alloc_eq_grow];exact holds_grow _ W _ cb co _ c m) b (by rw[alloc_eq_grow,size_grow];omega) p
 rw[show ((a-1:Nat):Int)=(a:Int)-1 by omega,show ((a+1:Nat):Int)=(a:Int)+1 by omega]at n;clear m h l;go_enter L.f37,BodyGg.n37_ntmps ρ
 go_wp2_with (go_at_fn (ρ.f 38);refine n.mono ?_;rintro e w' ⟨rfl,i⟩;have HW:Hid (CW (W.alloc (iK g lb sf sb (ρ.t 44))) cb co (median lt d (a-1) a (a+1) s).2 w'):=i;clear i)
 go_ret
 exact⟨rfl,HW.out.alloc c⟩
end Go.Proofs
/- The pivot, at elements of k cells, with a 'less' that may lay boxes of its own. -/
namespace Go.Proofs
open Go.Shelf Go.RowKit Go.Lib Go.Sort
variable {P:Program} {ρ:Ren} {α:Type} [Inhabited α] {enc:α->List Value} {k:Nat} {w0 w1 w2 w W W':World} {blk off cb co s s0 t:Nat} {dk dj d:Array α} {lt:α->α->Bool} {g sf:Nat} {lb sb:Array Value} {T:TypeId}
theorem acH(L:LaysGg.n29 P ρ)(h:kF P enc k lt g lb sf sb blk off d W):∃C:Nat->World->Prop,
  C 0 ((W.alloc (iK g lb sf sb (ρ.t 44))).alloc (.cells #[.int .i64 0] (ρ.t 3))) /\
  (∀t w,C t w->w.cell? ⟨W.heap.size+1,0,none⟩=some (.int .i64 t)) /\
  (∀t w,C t w->w.cell? ⟨W.heap.size,0,none⟩=some (.func (.func g) #[] lb)) /\
  (∀t w,C t w->w.cell? ⟨W.heap.size,1,none⟩=some (.func (.func sf) #[] sb)) /\
  (∀t w,C t w->∃n os,w=grow (Sort.ahead W n) os) /\
  (∀x t w,C t w->1<=x->x+1<d.size->t+3<4611686018427387904->Calls P (ρ.f 37) #[.agg #[.func (.func g) #[] lb,.func (.func sf) #[] sb],.int .i64 x,.pointer (some ⟨W.heap.size+1,0,none⟩)] w λe w'=>e=.returned (.int .i64 (medianAdjacent lt d x t).1)/\C (medianAdjacent lt d x t).2 w') /\
  (∀x y z t w,C t w->x<d.size->y<d.size->z<d.size->t+3<4611686018427387904->Calls P (ρ.f 38) #[.agg #[.func (.func g) #[] lb,.func (.func sf) #[] sb],.int .i64 x,.int .i64 y,.int .i64 z,.pointer (some ⟨W.heap.size+1,0,none⟩)] w λe w'=>e=.returned (.int .i64 (median lt d x y z t).1)/\C (median lt d x y z t).2 w'):=by
 have c:Holds (Value.int .i64) ((W.alloc (iK g lb sf sb (ρ.t 44))).alloc (.cells #[.int .i64 0] (ρ.t 3))) (W.heap.size+1) 0 (one 0):=λj p=>by
  have:j=0:=by simp at p;omega
  subst this;exact⟨by rw[World.cell?_alloc_at _ _ _ _ (by simp)];rfl,World.frozen?_alloc_at _ _ _ _ (by simp)⟩
 have a:W.heap.size+1<((W.alloc (iK g lb sf sb (ρ.t 44))).alloc (.cells #[.int .i64 0] (ρ.t 3))).heap.size:=by simp
 have i:SWK enc k W blk off d ((W.alloc (iK g lb sf sb (ρ.t 44))).alloc (.cells #[.int .i64 0] (ρ.t 3))):=((SWK.start h.H).alloc _).alloc _;have bx:∀(kx:Nat) (v:Value),((W.alloc (iK g lb sf sb (ρ.t 44))).alloc (.cells #[.int .i64 0] (ρ.t 3))).cell? ⟨W.heap.size,kx,none⟩=some v->∀t w,CW ((W.alloc (iK g lb sf sb (ρ.t 44))).alloc (.cells #[.int .i64 0] (ρ.t 3))) (W.heap.size+1) 0 t w->w.cell? ⟨W.heap.size,kx,none⟩=some v:=λkx v hv t w b=>by
  rw[b.cellAt (by omega) (by simp;omega)];exact hv
 refine⟨λt w=>CW ((W.alloc (iK g lb sf sb (ρ.t 44))).alloc (.cells #[.int .i64 0] (ρ.t 3))) (W.heap.size+1) 0 t w,CW.start c,λt w b=>(one_cell (b.holds c a)).1,
  bx 0 _ (by rw[World.cell?_alloc_past _ _ _ (by simp)];simp),bx 1 _ (by rw[World.cell?_alloc_past _ _ _ (by simp)];simp),λt w b=>?_,λx t w b q r m=>?_,λx y z t w b s u A m=>?_⟩
 ·exact SWK.plain h.H (i.cw (by omega) b)
 ·exact (D6 (P:=P) (ρ:=ρ) { L with } x (W.heap.size+1) 0 t h (i.cw (by omega) b) q r (b.holds c a) (by omega) (b.small a) m).mono λ_ _ ⟨o,l⟩=>⟨o,b.trans a l⟩
 ·exact (ND (P:=P) (ρ:=ρ) { L with } x y z (W.heap.size+1) 0 t h (i.cw (by omega) b) s u A (b.holds c a) (by omega) (b.small a) m).mono λ_ _ ⟨o,l⟩=>⟨o,b.trans a l⟩
set_option maxHeartbeats 2000000 in
set_option maxRecDepth 100000 in
theorem JW(L:LaysGg.n29 P ρ)(a b:Nat)(h:kF P enc k lt g lb sf sb blk off d W)(hab:a<b)(hb:b<=d.size) :
  Calls P (ρ.f 29) #[.agg #[.func (.func g) #[] lb,.func (.func sf) #[] sb],.int .i64 a,.int .i64 b] W λe w'=>
   e=.returned (.tuple #[.int .i64 (choosePivot lt d a b).1,.int .i64 (hintCode (choosePivot lt d a b).2)])/\∃n os,w'=grow (Sort.ahead W n) os:=by
 obtain⟨C,U,cS,V,X,Y,MA,MD⟩:=acH L h;have hsz:=h.sz;clear h;have mixed:=L.mixed;have t0:=L.t0;have a0:=L.a0;have z0:=L.z0;have v0:=L.v0;have t3:=L.t3;have a3:=L.a3;have z3:=L.z3;have v3:=L.v3;have t4:=L.t4;have a4:=L.a4;have z4:=L.z4;have v4:=L.v4;have t26:=L.t26;have a26:=L.a26;have z26:=L.z26;have v26:=L.v26;have t37:=L.t37;have a37:=L.a37;have z37:=L.z37;have v37:=L.v37;have t44:=L.t44;have a44:=L.a44;have z44:=L.z44;have v44:=L.v44;have t53:=L.t53;have a53:=L.a53;have z53:=L.z53;have v53:=L.v53;have t64:=L.t64;have a64:=L.a64;have z64:=L.z64;have v64:=L.v64;have t67:=L.t67;have a67:=L.a67;have z67:=L.z67;have v67:=L.v67;have u44:=run_underlying L.t44;have e37:∀args w,(callFunc (ρ.f 37) args).run P w=.ok (.enter (ρ.f 37) args) w:=enters_of L.f37 (by kernel_rfl) rfl;have e38:∀args w,(callFunc (ρ.f 38) args).run P w=.ok (.enter (ρ.f 38) args) w:=enters_of L.f38 (by kernel_rfl) rfl;have E:Hid _:=U;have Z:Hid _:=cS;have F:Hid _:=V;have G:Hid _:=X;have HG:Hid _:=Y;have HA:Hid _:=MA;have HM:Hid _:=MD;clear U cS V X Y MA MD;rw[choosePivot_eq];obtain⟨I,z⟩:∃I:Nat,I=a+(b-a) / 4*1:=⟨_,rfl⟩;obtain⟨J,t⟩:∃J:Nat,J=a+(b-a) / 4*2:=⟨_,rfl⟩;obtain⟨K,A⟩:∃K:Nat,K=a+(b-a) / 4*3:=⟨_,rfl⟩;have eI:((a:Int)+((b:Int)-(a:Int)) / 4)=(I:Int):=by omega
 have eJ:((a:Int)+((b:Int)-(a:Int)) / 4*2)=(J:Int):=by omega
 have eK:((a:Int)+((b:Int)-(a:Int)) / 4*3)=(K:Int):=by omega
 by_cases H:b-a>=8
 ·by_cases B:b-a>=50
  ·obtain⟨u,o,j⟩:∃u o,medianAdjacent lt d I 0=(u,o):=⟨_,_,rfl⟩;obtain⟨v,s2,l⟩:∃v s2,medianAdjacent lt d J o=(v,s2):=⟨_,_,rfl⟩;obtain⟨x,y,D⟩:∃x y,medianAdjacent lt d K s2=(x,y):=⟨_,_,rfl⟩;obtain⟨p,s,q⟩:∃p s,median lt d u v x y=(p,s):=⟨_,_,rfl⟩;have hraw:rawPivot lt d a b=(p,s):=by simp only[rawPivot,if_pos H,if_pos B,<- z,<- t,<- A,j,l,D,q]
   have M:=medianAdjacent_mem lt d I 0;rw[j]at M;have N:=medianAdjacent_mem lt d J o;rw[l]at N;have O:=medianAdjacent_mem lt d K s2;rw[D]at O;have n1:=medianAdjacent_count lt d I 0;rw[j]at n1;have n2:=medianAdjacent_count lt d J o;rw[l]at n2;have n3:=medianAdjacent_count lt d K s2;rw[D]at n3;simp only[]at M N O n1 n2 n3;have q1:Hid (∀w,C 0 w->Calls P (ρ.f 37) #[.agg #[.func (.func g) #[] lb,.func (.func sf) #[] sb],.int .i64 (I:Int),.pointer (some ⟨W.heap.size+1,0,none⟩)] w λe w'=>e=.returned (.int .i64 (u:Int))/\C o w'):=λw m=>by
    have h:=HA.out I 0 w m (by omega) (by omega) (by omega);rw[j]at h;exact h
   have q2:Hid (∀w,C o w->Calls P (ρ.f 37) #[.agg #[.func (.func g) #[] lb,.func (.func sf) #[] sb],.int .i64 (J:Int),.pointer (some ⟨W.heap.size+1,0,none⟩)] w λe w'=>e=.returned (.int .i64 (v:Int))/\C s2 w'):=λw m=>by
    have h:=HA.out J o w m (by omega) (by omega) (by omega);rw[l]at h;exact h
   have q3:Hid (∀w,C s2 w->Calls P (ρ.f 37) #[.agg #[.func (.func g) #[] lb,.func (.func sf) #[] sb],.int .i64 (K:Int),.pointer (some ⟨W.heap.size+1,0,none⟩)] w λe w'=>e=.returned (.int .i64 (x:Int))/\C y w'):=λw m=>by
    have h:=HA.out K s2 w m (by omega) (by omega) (by omega);rw[D]at h;exact h
   have Q:Hid (∀w,C y w->Calls P (ρ.f 38) #[.agg #[.func (.func g) #[] lb,.func (.func sf) #[] sb],.int .i64 (u:Int),.int .i64 (v:Int),.int .i64 (x:Int),.pointer (some ⟨W.heap.size+1,0,none⟩)] w λe w'=>e=.returned (.int .i64 (p:Int))/\C s w'):=λw m=>by
    have h:=HM.out u v x y w m (by omega) (by omega) (by omega) (by omega);rw[q]at h;exact h
   rw[hraw];obtain⟨Hc,hHc⟩:∃Hc:Int,Hc=hintCode (hintOf s):=⟨_,rfl⟩;have i:s=0->Hc=1:=λh=>by rw[hHc,h];rfl
   have hh12:s=12->Hc=2:=λh=>by rw[hHc,h];rfl
   have r:s≠0->s≠12->Hc=0:=λj l=>by rw[hHc];unfold hintOf;rw[if_neg j,if_neg l];rfl
   show Calls P (ρ.f 29) _ W λe w'=>e=.returned (.tuple #[.int .i64 (p:Int),.int .i64 (hintCode (hintOf s))])/\∃n os,w'=grow (Sort.ahead W n) os
   rw[<- hHc];clear hHc hraw;clear j l D q HA HM z t A M N O;go_enter L.f29,BodyGg.n29_ntmps ρ
   go_wp2_with (go_at_fn_of (ρ.f 37) (Value.int .i64 (I:Int));refine (q1.out _ E.out).mono ?_;rintro e w1 ⟨rfl,c⟩;have x0:=F.out _ _ c;have x1:=G.out _ _ c;have H1:Hid _:=c;clear c)
   go_wp2_with (go_at_fn_of (ρ.f 37) (Value.int .i64 (J:Int));refine (q2.out _ H1.out).mono ?_;rintro e w2 ⟨rfl,c⟩;have y0:=F.out _ _ c;have y1:=G.out _ _ c;have H2:Hid _:=c;clear c)
   go_wp2_with (go_at_fn_of (ρ.f 37) (Value.int .i64 (K:Int));refine (q3.out _ H2.out).mono ?_;rintro e w3 ⟨rfl,c⟩;have z0':=F.out _ _ c;have z1':=G.out _ _ c;have H3:Hid _:=c;clear c)
   go_wp2_with (go_at_fn (ρ.f 38);refine (Q.out _ H3.out).mono ?_;rintro e w4 ⟨rfl,c⟩;have xs:=Z.out _ _ c;have R:Hid _:=c;clear c)
   all_goals
    go_ret2
    refine⟨?_,HG.out _ _ R.out⟩
    first
     | (have S:(s:Int)=0:=of_beq_int (by assumption)
        rw[i (by omega)];rfl)
     | (have T:(s:Int)=12:=of_beq_int (by assumption)
        rw[hh12 (by omega)];rfl)
     | (have S:(s:Int)≠0:=of_bne_int (by assumption)
        have T:(s:Int)≠12:=of_bne_int (by assumption)
        rw[r (by omega) (by omega)];rfl)
     | (rw[i (by omega)];rfl)
  ·obtain⟨p,s,q⟩:∃p s,median lt d I J K 0=(p,s):=⟨_,_,rfl⟩;have hraw:rawPivot lt d a b=(p,s):=by simp only[rawPivot,if_pos H,if_neg B,<- z,<- t,<- A,q]
   have Q:Hid (∀w,C 0 w->Calls P (ρ.f 38) #[.agg #[.func (.func g) #[] lb,.func (.func sf) #[] sb],.int .i64 (I:Int),.int .i64 (J:Int),.int .i64 (K:Int),.pointer (some ⟨W.heap.size+1,0,none⟩)] w λe w'=>e=.returned (.int .i64 (p:Int))/\C s w'):=λw m=>by
    have h:=HM.out I J K 0 w m (by omega) (by omega) (by omega) (by omega);rw[q]at h;exact h
   rw[hraw];obtain⟨Hc,hHc⟩:∃Hc:Int,Hc=hintCode (hintOf s):=⟨_,rfl⟩;have i:s=0->Hc=1:=λh=>by rw[hHc,h];rfl
   have hh12:s=12->Hc=2:=λh=>by rw[hHc,h];rfl
   have r:s≠0->s≠12->Hc=0:=λj l=>by rw[hHc];unfold hintOf;rw[if_neg j,if_neg l];rfl
   show Calls P (ρ.f 29) _ W λe w'=>e=.returned (.tuple #[.int .i64 (p:Int),.int .i64 (hintCode (hintOf s))])/\∃n os,w'=grow (Sort.ahead W n) os
   rw[<- hHc];clear hHc hraw;clear q HA HM z t A;go_enter L.f29,BodyGg.n29_ntmps ρ
   go_wp2_with (go_at_fn (ρ.f 38);refine (Q.out _ E.out).mono ?_;rintro e w4 ⟨rfl,c⟩;have xs:=Z.out _ _ c;have R:Hid _:=c;clear c)
   all_goals
    go_ret2
    refine⟨?_,HG.out _ _ R.out⟩
    first
     | (have S:(s:Int)=0:=of_beq_int (by assumption)
        rw[i (by omega)];rfl)
     | (have T:(s:Int)=12:=of_beq_int (by assumption)
        rw[hh12 (by omega)];rfl)
     | (have S:(s:Int)≠0:=of_bne_int (by assumption)
        have T:(s:Int)≠12:=of_bne_int (by assumption)
        rw[r (by omega) (by omega)];rfl)
     | (rw[i (by omega)];rfl)
 ·have hraw:rawPivot lt d a b=(J,0):=by simp only[rawPivot,if_neg H,<- t]
  rw[hraw];show Calls P (ρ.f 29) _ W λe w'=>e=.returned (.tuple #[.int .i64 (J:Int),.int .i64 1])/\∃n os,w'=grow (Sort.ahead W n) os
  clear hraw HA HM z t A;go_enter L.f29,BodyGg.n29_ntmps ρ
  go_wp2
  go_ret2
  exact⟨rfl,HG.out _ _ E.out⟩
end Go.Proofs
/- partialInsertionSort, at elements of k cells, with a 'less' that may lay boxes of its own (printed by genpdq5.py). -/
namespace Go.Proofs
open Go.Shelf Go.RowKit Go.Lib Go.Sort
variable {P:Program} {ρ:Ren} {α:Type} [Inhabited α] {enc:α->List Value} {k:Nat} {w0 w1 W W':World} {blk off:Nat} {dk dj d:Array α} {lt:α->α->Bool} {g sf:Nat} {lb sb:Array Value} {T:TypeId}
set_option maxHeartbeats 16000000 in
set_option maxRecDepth 1000000 in
theorem Am(L:LaysGg.n31 P ρ)(a b:Nat)(h:kF P enc k lt g lb sf sb blk off d W)(hab:a<b)(hb:b<=d.size) :
  Calls P (ρ.f 31) #[.agg #[.func (.func g) #[] lb,.func (.func sf) #[] sb],.int .i64 a,.int .i64 b] W λe w'=>e=.returned (.bool (Sort.partialInsertionSort lt d a b).2)/\SWK enc k W blk off (Sort.partialInsertionSort lt d a b).1 w':=by
 have mixed:=L.mixed;have t0:=L.t0;have a0:=L.a0;have z0:=L.z0;have v0:=L.v0;have t3:=L.t3;have a3:=L.a3;have z3:=L.z3;have v3:=L.v3;have t4:=L.t4;have a4:=L.a4;have z4:=L.z4;have v4:=L.v4;have t26:=L.t26;have a26:=L.a26;have z26:=L.z26;have v26:=L.v26;have t37:=L.t37;have a37:=L.a37;have z37:=L.z37;have v37:=L.v37;have t44:=L.t44;have a44:=L.a44;have z44:=L.z44;have v44:=L.v44;have u44:=run_underlying L.t44;have eg:=h.eg;have hsz:=h.sz;obtain⟨S,R,hS⟩:=h.bx (ρ.t 44);have HL:Hid (∀(X:Array α) (j:Nat) (v:Bool) (w:World),S X w->X.size=d.size->1<=j->j<d.size->lt X[j]! X[j-1]! = v->Calls P g (#[.int .i64 (j:Int),.int .i64 ((j:Int)-1)]++lb) w λe w'=>e=.returned (.bool v)/\S X w'):=λX j v w T U h1 V hv=>by
  have z:=R.less j (j-1) T U V (by omega);rw[hv,show ((j-1:Nat):Int)=(j:Int)-1 by omega]at z;exact z
 have HS:Hid (∀(X:Array α) (j:Nat) (w:World),S X w->X.size=d.size->1<=j->j<d.size->∃w',(callFunc sf (#[.int .i64 (j:Int),.int .i64 ((j:Int)-1)]++sb)).run P w=.ok (.value (.tuple #[])) w'/\S (swp X j (j-1)) w'):=λX j w T U h1 V=>by
  have z:=R.swap j (j-1) T U V (by omega);rw[show ((j-1:Nat):Int)=(j:Int)-1 by omega]at z;exact z
 have HD:Hid _:=R;have D1:Hid _:=hS;clear R hS h;go_enter L.f31,BodyGg.n31_ntmps ρ
 go_wp2
 go_loopg [7,8] 5 (λg1 vi vs wr=>∃(i s:Nat) (dk:Array α),vi=.int .i64 i/\vs=.int .i64 s/\s<=5/\5-s<=g1/\a<i/\i<=b/\dk.size=d.size/\Hid (S dk wr)/\Hid (partialIns lt a b (5-s) i dk=partialIns lt a b 5 (a+1) d))
 case atStart=>exact⟨a+1,0,d,by go_num,rfl,by omega,by omega,by omega,by omega,rfl,D1,rfl⟩
 case round=>
  obtain⟨i,s,dk,rfl,rfl,hs5,hg1,hai,Y,u,HW,HO⟩:=hrel
  by_cases D:s<5
  ·have hsz5:(s:Int)<5:=by omega
   go_wp2
   go_loopg [7] (b-i) (λg2 vi Z=>∃kx:Nat,vi=.int .i64 kx/\i<=kx/\kx<=b/\b-kx<=g2/\Hid (S dk Z)/\Hid (scanSorted lt dk b kx=scanSorted lt dk b i))
   case atStart=>exact⟨i,rfl,aD _,Y,aD _,HW,rfl⟩
   case round=>
    clear HW
    obtain⟨kx,rfl,hik,hkb,hg2,HW,HSc⟩:=hrel
    have c0:=HD.out.c0 HW.out
    by_cases I:kx<b
    ·have hkz:(kx:Int)<(b:Int):=by omega
     cases E:lt dk[kx]! dk[kx-1]! with
     | false=>
      have z:=HL.out dk kx false _ HW.out u (by omega) (by omega) E;go_wp2_with (go_at_fn g;refine z.mono ?_;rintro e w' ⟨rfl,c⟩;have HW3:Hid _:=c;clear c)
      go_roundg (b-(kx+1))
      case measure=>omega
      case rel=>exact⟨kx+1,by go_num,by omega,by omega,aD _,HW3,(show Hid _ from by rw[<- HSc.out,scanSorted_go lt dk b kx I E];exact rfl)⟩
     | true=>
      have z:=HL.out dk kx true _ HW.out u (by omega) (by omega) E;have HK:Hid (scanSorted lt dk b i=kx):=by show _=_;rw[<- HSc.out,scanSorted_stop lt dk b kx (Or.inr E)]
      have hkne:((kx:Int)==(b:Int))=false:=beq_eq_false_iff_ne.2 (by omega);by_cases r:b-a<50
      ·have h50z:(b:Int)-(a:Int)<50:=by omega
       go_wp2_with (go_at_fn g;refine z.mono ?_;rintro e w' ⟨rfl,c⟩;have HW3:Hid _:=c;clear c)
       have hv:Sort.partialInsertionSort lt d a b=(dk,false):=by
        unfold Sort.partialInsertionSort;rw[<- HO.out,pi_short lt a b s i dk D (by rw[HK.out];omega) r]
       rw[hv];go_ret
       exact⟨rfl,HD.out.fin HW3.out u⟩
      ·have h50z:¬((b:Int)-(a:Int)<50):=by omega
       have J:(swp dk kx (kx-1)).size=d.size:=by rw[size_swp];exact u
       by_cases H:kx-a>=2
       ·have hkaz:(2:Int)<=(kx:Int)-(a:Int):=by omega
        go_wp2_with (go_at_fn g;refine z.mono ?_;rintro e w' ⟨rfl,c⟩;have c1':=HD.out.c1 c;obtain⟨w3,A,n⟩:=HS.out dk kx _ c u (by omega) (by omega);have HW1:Hid _:=n;clear c n)
        go_loopg [9] (kx-1) (λg3 vj wr3=>∃(j:Nat) (dj:Array α),vj=.int .i64 j/\j<=kx-1/\j<=g3/\dj.size=d.size/\Hid (S dj wr3)/\Hid (shiftDown lt j dj=shiftDown lt (kx-1) (swp dk kx (kx-1))))
        case atStart=>exact⟨kx-1,swp dk kx (kx-1),by congr 1;omega,aD _,aD _,J,HW1,rfl⟩
        case round=>
         obtain⟨j,dj,rfl,hjk,hg3,x,HWj,HDn⟩:=hrel
         have cj0:=HD.out.c0 HWj.out
         by_cases F:1<=j
         ·have hj1z:(1:Int)<=(j:Int):=by omega
          cases y:lt dj[j]! dj[j-1]! with
          | true=>
           have G:=HL.out dj j true _ HWj.out x F (by omega) y;go_wp2_with (go_at_fn g;refine G.mono ?_;rintro e w' ⟨rfl,c⟩;have c1':=HD.out.c1 c;obtain⟨w3,A,n⟩:=HS.out dj j _ c x F (by omega);have HW3:Hid _:=n;clear c n)
           go_roundg (j-1)
           case measure=>omega
           case rel=>exact⟨j-1,swp dj j (j-1),by congr 1;omega,by omega,aD _,by rw[size_swp];exact x,HW3,(show Hid _ from by rw[<- HDn.out,shiftDown_go lt j dj F y];exact rfl)⟩
          | false=>
           have G:=HL.out dj j false _ HWj.out x F (by omega) y;have HDn':Hid (fixDown lt a kx (swp dk kx (kx-1))=dj):=by show _=_;unfold fixDown;rw[if_pos H,<- HDn.out,shiftDown_stop lt j dj (Or.inr y)]
           by_cases q:b-kx>=2
           ·have hbkz:(2:Int)<=(b:Int)-(kx:Int):=by omega
            go_wp2_with (go_at_fn g;refine G.mono ?_;rintro e w' ⟨rfl,c⟩;have HWd:Hid _:=c;clear c)
            go_loopg [10] (b-(kx+1)) (λK vj B=>∃(ju:Nat) (du:Array α),vj=.int .i64 ju/\kx+1<=ju/\ju<=b/\b-ju<=K/\du.size=d.size/\Hid (S du B)/\Hid (shiftUp lt b ju du=shiftUp lt b (kx+1) dj))
            case atStart=>exact⟨kx+1,dj,by go_num,aD _,by omega,aD _,x,HWd,rfl⟩
            case round=>
             obtain⟨ju,du,rfl,M,N,O,m,HWu,HU⟩:=hrel
             have Q:=HD.out.c0 HWu.out
             by_cases o:ju<b
             ·have C:(ju:Int)<(b:Int):=by omega
              cases l:lt du[ju]! du[ju-1]! with
              | true=>
               have p:=HL.out du ju true _ HWu.out m (by omega) (by omega) l;go_wp2_with (go_at_fn g;refine p.mono ?_;rintro e w' ⟨rfl,c⟩;have c1':=HD.out.c1 c;obtain⟨w3,A,n⟩:=HS.out du ju _ c m (by omega) (by omega);have HW3:Hid _:=n;clear c n)
               go_roundg (b-(ju+1))
               case measure=>omega
               case rel=>exact⟨ju+1,swp du ju (ju-1),by go_num,by omega,by omega,aD _,by rw[size_swp];exact m,HW3,(show Hid _ from by rw[<- HU.out,shiftUp_go lt b ju du o l];exact rfl)⟩
              | false=>
               have p:=HL.out du ju false _ HWu.out m (by omega) (by omega) l;go_wp2_with (go_at_fn g;refine p.mono ?_;rintro e w' ⟨rfl,c⟩;have HW3:Hid _:=c;clear c)
               go_roundg (5-(s+1))
               case measure=>omega
               case rel=>exact⟨kx,s+1,du,rfl,by go_num,by omega,aD _,by omega,by omega,m,HW3,(show Hid _ from by rw[<- HO.out,pi_go lt a b s i kx dk D HK.out (by omega) r,HDn'.out,show fixUp lt b kx dj=du from by unfold fixUp;rw[if_pos q,<- HU.out,shiftUp_stop lt b ju du (Or.inr l)]];exact rfl)⟩
             ·have C:¬(ju:Int)<(b:Int):=by omega
              go_wp2
              go_roundg (5-(s+1))
              case measure=>omega
              case rel=>exact⟨kx,s+1,du,rfl,by go_num,by omega,aD _,by omega,by omega,m,HWu,(show Hid _ from by rw[<- HO.out,pi_go lt a b s i kx dk D HK.out (by omega) r,HDn'.out,show fixUp lt b kx dj=du from by unfold fixUp;rw[if_pos q,<- HU.out,shiftUp_stop lt b ju du (Or.inl o)]];exact rfl)⟩
           ·have hbkz:¬(2:Int)<=(b:Int)-(kx:Int):=by omega
            go_wp2_with (go_at_fn g;refine G.mono ?_;rintro e w' ⟨rfl,c⟩;have HWd:Hid _:=c;clear c)
            go_roundg (5-(s+1))
            case measure=>omega
            case rel=>exact⟨kx,s+1,dj,rfl,by go_num,by omega,aD _,by omega,by omega,x,HWd,(show Hid _ from by rw[<- HO.out,pi_go lt a b s i kx dk D HK.out (by omega) r,HDn'.out,show fixUp lt b kx dj=dj from by unfold fixUp;rw[if_neg q]];exact rfl)⟩
         ·have hj1z:¬(1:Int)<=(j:Int):=by omega
          have HDn':Hid (fixDown lt a kx (swp dk kx (kx-1))=dj):=by show _=_;unfold fixDown;rw[if_pos H,<- HDn.out,shiftDown_stop lt j dj (Or.inl (by omega))]
          by_cases q:b-kx>=2
          ·have hbkz:(2:Int)<=(b:Int)-(kx:Int):=by omega
           go_wp2
           go_loopg [10] (b-(kx+1)) (λK vj B=>∃(ju:Nat) (du:Array α),vj=.int .i64 ju/\kx+1<=ju/\ju<=b/\b-ju<=K/\du.size=d.size/\Hid (S du B)/\Hid (shiftUp lt b ju du=shiftUp lt b (kx+1) dj))
           case atStart=>exact⟨kx+1,dj,by go_num,aD _,by omega,aD _,x,HWj,rfl⟩
           case round=>
            obtain⟨ju,du,rfl,M,N,O,m,HWu,HU⟩:=hrel
            have Q:=HD.out.c0 HWu.out
            by_cases o:ju<b
            ·have C:(ju:Int)<(b:Int):=by omega
             cases l:lt du[ju]! du[ju-1]! with
             | true=>
              have p:=HL.out du ju true _ HWu.out m (by omega) (by omega) l;go_wp2_with (go_at_fn g;refine p.mono ?_;rintro e w' ⟨rfl,c⟩;have c1':=HD.out.c1 c;obtain⟨w3,A,n⟩:=HS.out du ju _ c m (by omega) (by omega);have HW3:Hid _:=n;clear c n)
              go_roundg (b-(ju+1))
              case measure=>omega
              case rel=>exact⟨ju+1,swp du ju (ju-1),by go_num,by omega,by omega,aD _,by rw[size_swp];exact m,HW3,(show Hid _ from by rw[<- HU.out,shiftUp_go lt b ju du o l];exact rfl)⟩
             | false=>
              have p:=HL.out du ju false _ HWu.out m (by omega) (by omega) l;go_wp2_with (go_at_fn g;refine p.mono ?_;rintro e w' ⟨rfl,c⟩;have HW3:Hid _:=c;clear c)
              go_roundg (5-(s+1))
              case measure=>omega
              case rel=>exact⟨kx,s+1,du,rfl,by go_num,by omega,aD _,by omega,by omega,m,HW3,(show Hid _ from by rw[<- HO.out,pi_go lt a b s i kx dk D HK.out (by omega) r,HDn'.out,show fixUp lt b kx dj=du from by unfold fixUp;rw[if_pos q,<- HU.out,shiftUp_stop lt b ju du (Or.inr l)]];exact rfl)⟩
            ·have C:¬(ju:Int)<(b:Int):=by omega
             go_wp2
             go_roundg (5-(s+1))
             case measure=>omega
             case rel=>exact⟨kx,s+1,du,rfl,by go_num,by omega,aD _,by omega,by omega,m,HWu,(show Hid _ from by rw[<- HO.out,pi_go lt a b s i kx dk D HK.out (by omega) r,HDn'.out,show fixUp lt b kx dj=du from by unfold fixUp;rw[if_pos q,<- HU.out,shiftUp_stop lt b ju du (Or.inl o)]];exact rfl)⟩
          ·have hbkz:¬(2:Int)<=(b:Int)-(kx:Int):=by omega
           go_wp2
           go_roundg (5-(s+1))
           case measure=>omega
           case rel=>exact⟨kx,s+1,dj,rfl,by go_num,by omega,aD _,by omega,by omega,x,HWj,(show Hid _ from by rw[<- HO.out,pi_go lt a b s i kx dk D HK.out (by omega) r,HDn'.out,show fixUp lt b kx dj=dj from by unfold fixUp;rw[if_neg q]];exact rfl)⟩
       ·have hkaz:¬(2:Int)<=(kx:Int)-(a:Int):=by omega
        have HDn':Hid (fixDown lt a kx (swp dk kx (kx-1))=(swp dk kx (kx-1))):=by show _=_;unfold fixDown;rw[if_neg H]
        by_cases q:b-kx>=2
        ·have hbkz:(2:Int)<=(b:Int)-(kx:Int):=by omega
         go_wp2_with (go_at_fn g;refine z.mono ?_;rintro e w' ⟨rfl,c⟩;have c1':=HD.out.c1 c;obtain⟨w3,A,n⟩:=HS.out dk kx _ c u (by omega) (by omega);have HW1:Hid _:=n;clear c n)
         go_loopg [10] (b-(kx+1)) (λK vj B=>∃(ju:Nat) (du:Array α),vj=.int .i64 ju/\kx+1<=ju/\ju<=b/\b-ju<=K/\du.size=d.size/\Hid (S du B)/\Hid (shiftUp lt b ju du=shiftUp lt b (kx+1) (swp dk kx (kx-1))))
         case atStart=>exact⟨kx+1,(swp dk kx (kx-1)),by go_num,aD _,by omega,aD _,J,HW1,rfl⟩
         case round=>
          obtain⟨ju,du,rfl,M,N,O,m,HWu,HU⟩:=hrel
          have Q:=HD.out.c0 HWu.out
          by_cases o:ju<b
          ·have C:(ju:Int)<(b:Int):=by omega
           cases l:lt du[ju]! du[ju-1]! with
           | true=>
            have p:=HL.out du ju true _ HWu.out m (by omega) (by omega) l;go_wp2_with (go_at_fn g;refine p.mono ?_;rintro e w' ⟨rfl,c⟩;have c1':=HD.out.c1 c;obtain⟨w3,A,n⟩:=HS.out du ju _ c m (by omega) (by omega);have HW3:Hid _:=n;clear c n)
            go_roundg (b-(ju+1))
            case measure=>omega
            case rel=>exact⟨ju+1,swp du ju (ju-1),by go_num,by omega,by omega,aD _,by rw[size_swp];exact m,HW3,(show Hid _ from by rw[<- HU.out,shiftUp_go lt b ju du o l];exact rfl)⟩
           | false=>
            have p:=HL.out du ju false _ HWu.out m (by omega) (by omega) l;go_wp2_with (go_at_fn g;refine p.mono ?_;rintro e w' ⟨rfl,c⟩;have HW3:Hid _:=c;clear c)
            go_roundg (5-(s+1))
            case measure=>omega
            case rel=>exact⟨kx,s+1,du,rfl,by go_num,by omega,aD _,by omega,by omega,m,HW3,(show Hid _ from by rw[<- HO.out,pi_go lt a b s i kx dk D HK.out (by omega) r,HDn'.out,show fixUp lt b kx (swp dk kx (kx-1))=du from by unfold fixUp;rw[if_pos q,<- HU.out,shiftUp_stop lt b ju du (Or.inr l)]];exact rfl)⟩
          ·have C:¬(ju:Int)<(b:Int):=by omega
           go_wp2
           go_roundg (5-(s+1))
           case measure=>omega
           case rel=>exact⟨kx,s+1,du,rfl,by go_num,by omega,aD _,by omega,by omega,m,HWu,(show Hid _ from by rw[<- HO.out,pi_go lt a b s i kx dk D HK.out (by omega) r,HDn'.out,show fixUp lt b kx (swp dk kx (kx-1))=du from by unfold fixUp;rw[if_pos q,<- HU.out,shiftUp_stop lt b ju du (Or.inl o)]];exact rfl)⟩
        ·have hbkz:¬(2:Int)<=(b:Int)-(kx:Int):=by omega
         exfalso;omega
    ·obtain rfl:kx=b:=by omega
     have hkz:¬(kx:Int)<(kx:Int):=by omega
     go_wp2
     have hv:Sort.partialInsertionSort lt d a kx=(dk,true):=by
      unfold Sort.partialInsertionSort;rw[<- HO.out,pi_true lt a kx s i dk D (by rw[<- HSc.out,scanSorted_stop lt dk kx kx (Or.inl (by omega))])]
     rw[hv];go_ret
     exact⟨rfl,HD.out.fin HW.out u⟩
  ·obtain rfl:s=5:=by omega
   go_wp2
   have hv:Sort.partialInsertionSort lt d a b=(dk,false):=by
    unfold Sort.partialInsertionSort;rw[<- HO.out,pi_end]
   rw[hv];go_ret
   exact⟨rfl,HD.out.fin HW.out u⟩
end Go.Proofs
/- partitionEqual, at elements of k cells, with a 'less' that may lay boxes of its own (printed by genpdq6.py). -/
namespace Go.Proofs
open Go.Shelf Go.RowKit Go.Lib Go.Sort
variable {P:Program} {ρ:Ren} {α:Type} [Inhabited α] {enc:α->List Value} {k:Nat} {w0 w1 W W':World} {blk off:Nat} {dk dj d:Array α} {lt:α->α->Bool} {g sf:Nat} {lb sb:Array Value} {T:TypeId}
set_option maxHeartbeats 12800000 in
set_option maxRecDepth 100000 in
theorem D5(L:LaysGg.n32 P ρ)(a b pivot:Nat)(h:kF P enc k lt g lb sf sb blk off d W)(K:a<=pivot)(M:pivot<b)(X:b<=d.size) :
  Calls P (ρ.f 32) #[.agg #[.func (.func g) #[] lb,.func (.func sf) #[] sb],.int .i64 a,.int .i64 b,.int .i64 pivot] W λe w'=>e=.returned (.int .i64 (Sort.partitionEqual lt d a b pivot).1)/\SWK enc k W blk off (Sort.partitionEqual lt d a b pivot).2 w':=by
 have mixed:=L.mixed;have t0:=L.t0;have a0:=L.a0;have z0:=L.z0;have v0:=L.v0;have t3:=L.t3;have a3:=L.a3;have z3:=L.z3;have v3:=L.v3;have t4:=L.t4;have a4:=L.a4;have z4:=L.z4;have v4:=L.v4;have t26:=L.t26;have a26:=L.a26;have z26:=L.z26;have v26:=L.v26;have t37:=L.t37;have a37:=L.a37;have z37:=L.z37;have v37:=L.v37;have t44:=L.t44;have a44:=L.a44;have z44:=L.z44;have v44:=L.v44;have N:=run_underlying L.t44;have eg:=h.eg;have O:=h.sz;obtain⟨S,C,H⟩:=h.bx (ρ.t 44);have HD:Hid _:=C;obtain⟨Y,D,w⟩:=C.swap a pivot H rfl (by omega) (by omega);have I:Hid _:=w;clear C H h w;go_enter L.f32,BodyGg.n32_ntmps ρ
 go_wp2
 go_loopw [9,10] (λvi vj wr=>∃(i j:Nat) (dk:Array α),vi=.int .i64 i/\vj=.int .i64 j/\a<i/\i<=j+1/\j<b/\dk.size=d.size/\Hid (S dk wr)/\Hid (Sort.partEqLoop lt a i j dk=Sort.partEqLoop lt a (a+1) (b-1) (Sort.swp d a pivot)))
  (λvi vj _=>(intOf vj).toNat+1-(intOf vi).toNat)
 case atStart=>exact⟨a+1,b-1,Sort.swp d a pivot,by go_num,by go_num,by omega,by omega,by omega,size_swp _ _ _,I,rfl⟩
 case round=>
  clear I D
  obtain⟨i,j,dk,rfl,rfl,Q,E,R,v,HW,AE⟩:=hrel
  go_wp2
  go_loopw [9] (λvi w1=>∃i':Nat,vi=.int .i64 i'/\i<=i'/\i'<=j+1/\Hid (S dk w1)/\Hid (Sort.scanUp (λx=>!lt dk[a]! x) dk j i'=Sort.scanUp (λx=>!lt dk[a]! x) dk j i)) (λvi _=>j+1-(intOf vi).toNat)
  case atStart=>exact⟨i,rfl,aD _,E,HW,rfl⟩
  case round=>
   clear HW
   obtain⟨i',rfl,T,u,HW,p⟩:=hrel
   have B:=HD.out.c0 HW.out
   by_cases y:i'<=j
   ·have r:=HD.out.less a i' HW.out v (by omega) (by omega);cases s:lt dk[a]! dk[i']! with
    | false=>
     rw[s]at r;go_wp2_with (go_at_fn g;refine r.mono ?_;rintro e w' ⟨rfl,c⟩;have HW2:Hid _:=c;clear c)
     go_roundw
     case rel=>exact⟨i'+1,by go_num,by omega,by omega,HW2,(scanUp_go (λx=>!lt dk[a]! x) dk j i' y (by simp[s])).symm.trans p.out⟩
     case measure=>simp[intOf];omega
    | true=>
     rw[s]at r;have q:Hid (i'=Sort.scanUp (λx=>!lt dk[a]! x) dk j i):=(scanUp_end (λx=>!lt dk[a]! x) dk j i' (Or.inr (by simp[s]))).symm.trans p.out;go_wp2_with (go_at_fn g;refine r.mono ?_;rintro e w' ⟨rfl,c⟩;have HW2:Hid _:=c;clear c)
     clear B p r HW;go_loopw [10] (λvj w2=>∃j':Nat,vj=.int .i64 j'/\j'<=j/\i'<=j'+1/\Hid (S dk w2)/\Hid (Sort.scanDown (λx=>lt dk[a]! x) dk i' j'=Sort.scanDown (λx=>lt dk[a]! x) dk i' j)) (λvj _=>(intOf vj).toNat)
     case atStart=>exact⟨j,rfl,aD _,u,HW2,rfl⟩
     case round=>
      clear HW2
      obtain⟨j',rfl,F,z,HV,l⟩:=hrel
      have B:=HD.out.c0 HV.out
      have U:=HD.out.c1 HV.out
      by_cases m:i'<=j'
      ·have r:=HD.out.less a j' HV.out v (by omega) (by omega);cases n:lt dk[a]! dk[j']! with
       | true=>
        rw[n]at r;go_wp2_with (go_at_fn g;refine r.mono ?_;rintro e w' ⟨rfl,c⟩;have HW2:Hid _:=c;clear c)
        go_roundw
        case rel=>exact⟨j'-1,by go_num,by omega,by omega,HW2,(scanDown_go (λx=>lt dk[a]! x) dk i' j' m (by omega) n).symm.trans l.out⟩
        case measure=>simp[intOf];omega
       | false=>
        rw[n]at r;have o:Hid (j'=Sort.scanDown (λx=>lt dk[a]! x) dk i' j):=(scanDown_end (λx=>lt dk[a]! x) dk i' j' (Or.inr n)).symm.trans l.out;have J:=scans_lt lt a i j dk (by omega) q.out o.out m;clear l;go_wp2_with (go_at_fn g;refine r.mono ?_;rintro e w' ⟨rfl,c⟩;have d1':=HD.out.c1 c;obtain⟨w3,V,A⟩:=HD.out.swap i' j' c v (by omega) (by omega);have HX:Hid _:=A;clear c A)
        go_roundw
        case rel=>exact⟨i'+1,j'-1,Sort.swp dk i' j',by go_num,by go_num,by omega,by omega,by omega,by rw[size_swp];exact v,HX,(show Hid _ from by rw[<- AE.out];exact (partEq_go lt a i j dk q.out o.out (by omega)).symm)⟩
        case measure=>simp[intOf];omega
      ·have o:Hid (j'=Sort.scanDown (λx=>lt dk[a]! x) dk i' j):=(scanDown_end (λx=>lt dk[a]! x) dk i' j' (Or.inl m)).symm.trans l.out;clear l;go_wp2
       go_ret
       have e:=partEq_break lt a i j dk q.out o.out (by omega);have G:Sort.partitionEqual lt d a b pivot=(i',dk):=by unfold Sort.partitionEqual;rw[<- AE.out,e]
       rw[G];exact⟨rfl,HD.out.fin HV.out v⟩
   ·have q:Hid (i'=Sort.scanUp (λx=>!lt dk[a]! x) dk j i):=(scanUp_end (λx=>!lt dk[a]! x) dk j i' (Or.inl y)).symm.trans p.out;go_wp2
    clear B p;go_loopw [10] (λvj w2=>∃j':Nat,vj=.int .i64 j'/\j'<=j/\i'<=j'+1/\Hid (S dk w2)/\Hid (Sort.scanDown (λx=>lt dk[a]! x) dk i' j'=Sort.scanDown (λx=>lt dk[a]! x) dk i' j)) (λvj _=>(intOf vj).toNat)
    case atStart=>exact⟨j,rfl,aD _,u,HW,rfl⟩
    case round=>
     clear HW
     obtain⟨j',rfl,F,z,HV,l⟩:=hrel
     have B:=HD.out.c0 HV.out
     have U:=HD.out.c1 HV.out
     by_cases m:i'<=j'
     ·exfalso;omega
     ·have o:Hid (j'=Sort.scanDown (λx=>lt dk[a]! x) dk i' j):=(scanDown_end (λx=>lt dk[a]! x) dk i' j' (Or.inl m)).symm.trans l.out;clear l;go_wp2
      go_ret
      have e:=partEq_break lt a i j dk q.out o.out (by omega);have G:Sort.partitionEqual lt d a b pivot=(i',dk):=by unfold Sort.partitionEqual;rw[<- AE.out,e]
      rw[G];exact⟨rfl,HD.out.fin HV.out v⟩
end Go.Proofs
/- partition, at elements of k cells, with a 'less' that may lay boxes of its own (printed by genpdq6.py). -/
namespace Go.Proofs
open Go.Shelf Go.RowKit Go.Lib Go.Sort
variable {P:Program} {ρ:Ren} {α:Type} [Inhabited α] {enc:α->List Value} {k:Nat} {w0 w1 W W':World} {blk off:Nat} {dk dj d:Array α} {lt:α->α->Bool} {g sf:Nat} {lb sb:Array Value} {T:TypeId}
set_option maxHeartbeats 12800000 in
set_option maxRecDepth 100000 in
theorem Qs(L:LaysGg.n33 P ρ)(a b pivot:Nat)(h:kF P enc k lt g lb sf sb blk off d W)(Z:a<=pivot)(hpb:pivot<b)(hb:b<=d.size) :
  Calls P (ρ.f 33) #[.agg #[.func (.func g) #[] lb,.func (.func sf) #[] sb],.int .i64 a,.int .i64 b,.int .i64 pivot] W λe w'=>e=.returned (.tuple #[.int .i64 (Sort.partition lt d a b pivot).1,.bool (Sort.partition lt d a b pivot).2.1])/\SWK enc k W blk off (Sort.partition lt d a b pivot).2.2 w':=by
 have mixed:=L.mixed;have t0:=L.t0;have a0:=L.a0;have z0:=L.z0;have v0:=L.v0;have t3:=L.t3;have a3:=L.a3;have z3:=L.z3;have v3:=L.v3;have t4:=L.t4;have a4:=L.a4;have z4:=L.z4;have v4:=L.v4;have t26:=L.t26;have a26:=L.a26;have z26:=L.z26;have v26:=L.v26;have t37:=L.t37;have a37:=L.a37;have z37:=L.z37;have v37:=L.v37;have t44:=L.t44;have a44:=L.a44;have z44:=L.z44;have v44:=L.v44;have u44:=run_underlying L.t44;have eg:=h.eg;have hsz:=h.sz;obtain⟨S,Q,X⟩:=h.bx (ρ.t 44);have HD:Hid _:=Q;obtain⟨i,hi⟩:∃i:Nat,i=a+1:=⟨_,rfl⟩;obtain⟨j,Y⟩:∃j:Nat,j=b-1:=⟨_,rfl⟩;obtain⟨dk,C⟩:∃dk:Array α,dk=Sort.swp d a pivot:=⟨_,rfl⟩;have v:dk.size=d.size:=by rw[C];exact size_swp _ _ _
 have R:a<i:=by omega
 have E:i<=j+1:=by omega
 have T:j<b:=by omega
 obtain⟨W1,U,F⟩:=Q.swap a pivot X rfl (by omega) (by omega);rw[<- C]at F;have HW:Hid _:=F;have Hi:Hid (i=a+1):=hi;have Hj:Hid (j=b-1):=Y;have Hdk:Hid (dk=Sort.swp d a pivot):=C;clear Q X h F hi Y C;go_enter L.f33,BodyGg.n33_ntmps ρ
 go_wp2
 rw[show ((a:Int)+1)=(i:Int) by have:=Hi.out;omega,show ((b:Int)-1)=(j:Int) by have:=Hj.out;omega];go_loopw [10] (λvi w1=>∃i':Nat,vi=.int .i64 i'/\i<=i'/\i'<=j+1/\Hid (S dk w1)/\Hid (Sort.scanUp (λx=>lt x dk[a]!) dk j i'=Sort.scanUp (λx=>lt x dk[a]!) dk j i)) (λvi _=>j+1-(intOf vi).toNat)
 case atStart=>exact⟨i,rfl,aD _,E,HW,rfl⟩
 case round=>
  clear HW
  obtain⟨i',rfl,V,w,HW,r⟩:=hrel
  have B:=HD.out.c0 HW.out
  by_cases y:i'<=j
  ·have s:=HD.out.less i' a HW.out v (by omega) (by omega);cases u:lt dk[i']! dk[a]! with
   | true=>
    rw[u]at s;go_wp2_with (go_at_fn g;refine s.mono ?_;rintro e w' ⟨rfl,c⟩;have HW2:Hid _:=c;clear c)
    go_roundw
    case rel=>exact⟨i'+1,by go_num,by omega,by omega,HW2,(scanUp_go (λx=>lt x dk[a]!) dk j i' y u).symm.trans r.out⟩
    case measure=>simp[intOf];omega
   | false=>
    rw[u]at s;have q:Hid (i'=Sort.scanUp (λx=>lt x dk[a]!) dk j i):=(scanUp_end (λx=>lt x dk[a]!) dk j i' (Or.inr u)).symm.trans r.out;go_wp2_with (go_at_fn g;refine s.mono ?_;rintro e w' ⟨rfl,c⟩;have HW2:Hid _:=c;clear c)
    clear B r s HW;go_loopw [11] (λvj w2=>∃j':Nat,vj=.int .i64 j'/\j'<=j/\i'<=j'+1/\Hid (S dk w2)/\Hid (Sort.scanDown (λx=>!lt x dk[a]!) dk i' j'=Sort.scanDown (λx=>!lt x dk[a]!) dk i' j)) (λvj _=>(intOf vj).toNat)
    case atStart=>exact⟨j,rfl,aD _,w,HW2,rfl⟩
    case round=>
     clear HW2
     obtain⟨j',rfl,G,z,HV,l⟩:=hrel
     have B:=HD.out.c0 HV.out
     have O:=HD.out.c1 HV.out
     by_cases m:i'<=j'
     ·have s:=HD.out.less j' a HV.out v (by omega) (by omega);cases o:lt dk[j']! dk[a]! with
      | false=>
       rw[o]at s;go_wp2_with (go_at_fn g;refine s.mono ?_;rintro e w' ⟨rfl,c⟩;have HW2:Hid _:=c;clear c)
       go_roundw
       case rel=>exact⟨j'-1,by go_num,by omega,by omega,HW2,(scanDown_go (λx=>!lt x dk[a]!) dk i' j' m (by omega) (by simp[o])).symm.trans l.out⟩
       case measure=>simp[intOf];omega
      | true=>
       rw[o]at s;have p:Hid (j'=Sort.scanDown (λx=>!lt x dk[a]!) dk i' j):=(scanDown_end (λx=>!lt x dk[a]!) dk i' j' (Or.inr (by simp[o]))).symm.trans l.out;have D:=part_scans_lt lt a i j dk (by omega) q.out p.out m;clear l;go_wp2_with (go_at_fn g;refine s.mono ?_;rintro e w' ⟨rfl,c⟩;have d1':=HD.out.c1 c;obtain⟨w3,A,n⟩:=HD.out.swap i' j' c v (by omega) (by omega);have HX:Hid _:=n;clear c n)
       rw[ae (show ¬j'<i' by omega)];obtain⟨K,H⟩:∃K:Nat,K=i'+1:=⟨_,rfl⟩;obtain⟨M,I⟩:∃M:Nat,M=j'-1:=⟨_,rfl⟩;obtain⟨N,J⟩:∃N:Array α,N=Sort.swp dk i' j':=⟨_,rfl⟩;have PF:Hid (Sort.partition lt d a b pivot=((Sort.partLoop lt a K M N).1,false,Sort.swp (Sort.partLoop lt a K M N).2 (Sort.partLoop lt a K M N).1 a)):=by
        rw[H,I,J];exact part_first_go lt d a b pivot Hi.out Hj.out Hdk.out q.out p.out (by omega)
       go_loopw [10,11] (λvi vj wr=>∃(i j:Nat) (dk:Array α),vi=.int .i64 i/\vj=.int .i64 j/\a<i/\i<=j+1/\j<b/\dk.size=d.size/\Hid (S dk wr)/\Hid (Sort.partLoop lt a i j dk=Sort.partLoop lt a K M N))
        (λvi vj _=>(intOf vj).toNat+1-(intOf vi).toNat)
       case atStart=>exact⟨i'+1,j'-1,Sort.swp dk i' j',by go_num,by go_num,by omega,by omega,by omega,by rw[size_swp];exact v,HX,by rw[H,I,J];exact rfl⟩
       case round=>
        clear H I J HX HV p q D B O s Hi Hj Hdk v U
        obtain⟨i,j,dk,rfl,rfl,R,E,T,v,HW,AE⟩:=hrel
        go_wp2
        go_loopw [10] (λvi w1=>∃i':Nat,vi=.int .i64 i'/\i<=i'/\i'<=j+1/\Hid (S dk w1)/\Hid (Sort.scanUp (λx=>lt x dk[a]!) dk j i'=Sort.scanUp (λx=>lt x dk[a]!) dk j i)) (λvi _=>j+1-(intOf vi).toNat)
        case atStart=>exact⟨i,rfl,aD _,E,HW,rfl⟩
        case round=>
         clear HW
         obtain⟨i',rfl,V,w,HW,r⟩:=hrel
         have B:=HD.out.c0 HW.out
         by_cases y:i'<=j
         ·have s:=HD.out.less i' a HW.out v (by omega) (by omega);cases u:lt dk[i']! dk[a]! with
          | true=>
           rw[u]at s;go_wp2_with (go_at_fn g;refine s.mono ?_;rintro e w' ⟨rfl,c⟩;have HW2:Hid _:=c;clear c)
           go_roundw
           case rel=>exact⟨i'+1,by go_num,by omega,by omega,HW2,(scanUp_go (λx=>lt x dk[a]!) dk j i' y u).symm.trans r.out⟩
           case measure=>simp[intOf];omega
          | false=>
           rw[u]at s;have q:Hid (i'=Sort.scanUp (λx=>lt x dk[a]!) dk j i):=(scanUp_end (λx=>lt x dk[a]!) dk j i' (Or.inr u)).symm.trans r.out;go_wp2_with (go_at_fn g;refine s.mono ?_;rintro e w' ⟨rfl,c⟩;have HW2:Hid _:=c;clear c)
           clear B r s HW;go_loopw [11] (λvj w2=>∃j':Nat,vj=.int .i64 j'/\j'<=j/\i'<=j'+1/\Hid (S dk w2)/\Hid (Sort.scanDown (λx=>!lt x dk[a]!) dk i' j'=Sort.scanDown (λx=>!lt x dk[a]!) dk i' j)) (λvj _=>(intOf vj).toNat)
           case atStart=>exact⟨j,rfl,aD _,w,HW2,rfl⟩
           case round=>
            clear HW2
            obtain⟨j',rfl,G,z,HV,l⟩:=hrel
            have B:=HD.out.c0 HV.out
            have O:=HD.out.c1 HV.out
            by_cases m:i'<=j'
            ·have s:=HD.out.less j' a HV.out v (by omega) (by omega);cases o:lt dk[j']! dk[a]! with
             | false=>
              rw[o]at s;go_wp2_with (go_at_fn g;refine s.mono ?_;rintro e w' ⟨rfl,c⟩;have HW2:Hid _:=c;clear c)
              go_roundw
              case rel=>exact⟨j'-1,by go_num,by omega,by omega,HW2,(scanDown_go (λx=>!lt x dk[a]!) dk i' j' m (by omega) (by simp[o])).symm.trans l.out⟩
              case measure=>simp[intOf];omega
             | true=>
              rw[o]at s;have p:Hid (j'=Sort.scanDown (λx=>!lt x dk[a]!) dk i' j):=(scanDown_end (λx=>!lt x dk[a]!) dk i' j' (Or.inr (by simp[o]))).symm.trans l.out;have D:=part_scans_lt lt a i j dk (by omega) q.out p.out m;clear l;go_wp2_with (go_at_fn g;refine s.mono ?_;rintro e w' ⟨rfl,c⟩;have d1':=HD.out.c1 c;obtain⟨w3,A,n⟩:=HD.out.swap i' j' c v (by omega) (by omega);have HX:Hid _:=n;clear c n)
              go_roundw
              case rel=>exact⟨i'+1,j'-1,Sort.swp dk i' j',by go_num,by go_num,by omega,by omega,by omega,by rw[size_swp];exact v,HX,(show Hid _ from by rw[<- AE.out];exact (part_go lt a i j dk q.out p.out (by omega)).symm)⟩
              case measure=>simp[intOf];omega
            ·have p:Hid (j'=Sort.scanDown (λx=>!lt x dk[a]!) dk i' j):=(scanDown_end (λx=>!lt x dk[a]!) dk i' j' (Or.inl m)).symm.trans l.out;clear l;obtain⟨w3,A,n⟩:=HD.out.swap j' a HV.out v (by omega) (by omega);have HX:Hid _:=n;clear n;go_wp2
             go_ret2
             have e:=part_break lt a i j dk q.out p.out (by omega);rw[PF.out,<- AE.out,e];exact⟨rfl,HD.out.fin HX.out (by rw[size_swp];exact v)⟩
         ·have q:Hid (i'=Sort.scanUp (λx=>lt x dk[a]!) dk j i):=(scanUp_end (λx=>lt x dk[a]!) dk j i' (Or.inl y)).symm.trans r.out;go_wp2
          clear B r;go_loopw [11] (λvj w2=>∃j':Nat,vj=.int .i64 j'/\j'<=j/\i'<=j'+1/\Hid (S dk w2)/\Hid (Sort.scanDown (λx=>!lt x dk[a]!) dk i' j'=Sort.scanDown (λx=>!lt x dk[a]!) dk i' j)) (λvj _=>(intOf vj).toNat)
          case atStart=>exact⟨j,rfl,aD _,w,HW,rfl⟩
          case round=>
           clear HW
           obtain⟨j',rfl,G,z,HV,l⟩:=hrel
           have B:=HD.out.c0 HV.out
           have O:=HD.out.c1 HV.out
           by_cases m:i'<=j'
           ·exfalso;omega
           ·have p:Hid (j'=Sort.scanDown (λx=>!lt x dk[a]!) dk i' j):=(scanDown_end (λx=>!lt x dk[a]!) dk i' j' (Or.inl m)).symm.trans l.out;clear l;obtain⟨w3,A,n⟩:=HD.out.swap j' a HV.out v (by omega) (by omega);have HX:Hid _:=n;clear n;go_wp2
            go_ret2
            have e:=part_break lt a i j dk q.out p.out (by omega);rw[PF.out,<- AE.out,e];exact⟨rfl,HD.out.fin HX.out (by rw[size_swp];exact v)⟩
     ·have p:Hid (j'=Sort.scanDown (λx=>!lt x dk[a]!) dk i' j):=(scanDown_end (λx=>!lt x dk[a]!) dk i' j' (Or.inl m)).symm.trans l.out;clear l;obtain⟨w3,A,n⟩:=HD.out.swap j' a HV.out v (by omega) (by omega);have HX:Hid _:=n;clear n;go_wp2
      go_ret2
      have e:=part_first_break lt d a b pivot Hi.out Hj.out Hdk.out q.out p.out (by omega);rw[e];exact⟨rfl,HD.out.fin HX.out (by rw[size_swp];exact v)⟩
  ·have q:Hid (i'=Sort.scanUp (λx=>lt x dk[a]!) dk j i):=(scanUp_end (λx=>lt x dk[a]!) dk j i' (Or.inl y)).symm.trans r.out;go_wp2
   clear B r;go_loopw [11] (λvj w2=>∃j':Nat,vj=.int .i64 j'/\j'<=j/\i'<=j'+1/\Hid (S dk w2)/\Hid (Sort.scanDown (λx=>!lt x dk[a]!) dk i' j'=Sort.scanDown (λx=>!lt x dk[a]!) dk i' j)) (λvj _=>(intOf vj).toNat)
   case atStart=>exact⟨j,rfl,aD _,w,HW,rfl⟩
   case round=>
    clear HW
    obtain⟨j',rfl,G,z,HV,l⟩:=hrel
    have B:=HD.out.c0 HV.out
    have O:=HD.out.c1 HV.out
    by_cases m:i'<=j'
    ·exfalso;omega
    ·have p:Hid (j'=Sort.scanDown (λx=>!lt x dk[a]!) dk i' j):=(scanDown_end (λx=>!lt x dk[a]!) dk i' j' (Or.inl m)).symm.trans l.out;clear l;obtain⟨w3,A,n⟩:=HD.out.swap j' a HV.out v (by omega) (by omega);have HX:Hid _:=n;clear n;go_wp2
     go_ret2
     have e:=part_first_break lt d a b pivot Hi.out Hj.out Hdk.out q.out p.out (by omega);rw[e];exact⟨rfl,HD.out.fin HX.out (by rw[size_swp];exact v)⟩
