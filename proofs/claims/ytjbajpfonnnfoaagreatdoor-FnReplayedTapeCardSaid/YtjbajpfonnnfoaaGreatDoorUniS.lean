import Derived.Test.YtjbajpfonnnfoaaGreatDoorLib1
import Derived.Test.YtjbajpfonnnfoaaGreatDoorLink1
import Derived.Test.YtjbajpfonnnfoaaGreatDoorPdq5
import Derived.StillTailTactics
import Derived.Shelf.GgSortFunc.Tiny
import Derived.Test.YtjbajpfonnnfoaaGreatDoorMk
import Derived.Maps.OwnOps
import Derived.Maps.OwnSet
import Derived.Maps.AppendAt
import Derived.Maps.Views
import Derived.Deep.AppendLies
import Derived.Deep.AppendSrc
import Derived.DeepKeys4
import Derived.MapViews
set_option linter.unusedSimpArgs false
set_option linter.unusedVariables false
/- The order by which origins are sorted: the closure's walk; sort.Slice at a row of the call's own. -/
namespace Go.Proofs.YtjbajpfonnnfoaaGreatDoor
open Go.Abs Go.Proofs Go.Shelf Go.RowKit Go.Lib Go.Sort
instance:Inhabited aj:=⟨⟨0,0⟩⟩
def lT(o:aj):List Value:=[.int .i64 o.cell,.int .i64 o.row]
theorem ael{x y:aj}(h:orB x y=false):¬(x.cell<y.cell\/x.cell=y.cell/\x.row<y.row):=fun q=>by rw[xY.2 q]at h;cases h
theorem af0:SWO orB where
 irrefl:=KG
 trans:=fun _ _ _ h k=>wJ h k
 ntrans:=fun x y z h k=>by
  have a:=ael h;have b:=ael k;cases e:orB x z with
  | false=>rfl
  | true=>rw[xY]at e;omega
set_option maxHeartbeats 2000000 in
set_option maxRecDepth 100000 in
theorem Qi(xi xj:aj)(W:World) :
  Calls Tryz.prog 220 #[.agg #[.int .i64 xi.cell,.int .i64 xi.row],.agg #[.int .i64 xj.cell,.int .i64 xj.row]] W fun e w'=>e=.returned (.bool (orB xi xj))/\∃m os,w'=grow (Sort.ahead W m) os:=by
 have mixed:=l6.mixed;go_enter Tryz.func220,Tryz.ntmps220
 go_wp2
 all_goals
  go_ret
  refine⟨?_,0,_,by rw[alloc_eq_grow,alloc_eq_grow,grow_grow];rfl⟩
  simp_all [orB]
set_option maxHeartbeats 4000000 in
set_option maxRecDepth 100000 in
theorem WQ(Bs blk n cap i j:Nat)(xi xj:aj)(W:World)(a:W.cell? ⟨Bs,0,none⟩=some (.slice (some ⟨blk,0,none⟩) n cap))(h:i<n)(k:j<n)(l:n<4611686018427387904)
  (b:W.cell? ⟨blk,i*2,none⟩=some (.int .i64 xi.cell)) (c:W.cell? ⟨blk,i*2+1,none⟩=some (.int .i64 xi.row)) (d:W.cell? ⟨blk,j*2,none⟩=some (.int .i64 xj.cell)) (f:W.cell? ⟨blk,j*2+1,none⟩=some (.int .i64 xj.row)) :
  Calls Tryz.prog 223 #[.int .i64 i,.int .i64 j,.pointer (some ⟨Bs,0,none⟩)] W fun e w'=>e=.returned (.bool (orB xi xj))/\∃m os,w'=grow (Sort.ahead W m) os:=by
 have g:=fun W'=>Qi xi xj W'
 have mixed:=l6.mixed;go_enter Tryz.func223,Tryz.ntmps223
 go_wp2
 go_still_tail 8,(by kernel_rfl)
 change wpList _ _ _ _ _ W.drew;clear b c d f a;go_wp2_with (go_at_call 220;refine (g _).mono ?_;rintro e w' ⟨rfl,m,os,rfl⟩)
 go_ret
 exact⟨rfl,1+m,os,by rw[drew_eq_ahead,ahead_ahead]⟩
theorem WR{Bs blk cap:Nat}{d:Array aj}{w:World}(q:HoldsK lT 2 w blk 0 d)(hblk:blk<w.heap.size)(hBs:w.cell? ⟨Bs,0,none⟩=some (.slice (some ⟨blk,0,none⟩) d.size cap))(f:Bs<w.heap.size)(g:Bs≠blk)(h:d.size<4611686018427387904) :
  jr Tryz.prog 223 #[.pointer (some ⟨Bs,0,none⟩)] lT 2 orB blk 0 d.size w:=by
 intro m os dk r i j s u;have a:SWK lT 2 w blk 0 dk (sortWorldK lT 2 w blk 0 m dk os):=⟨m,os,rfl⟩;have hHW:=a.holds hblk q r;have k:=(a.cellAt (b:=Bs) (o:=0) g f).trans hBs;have cell:∀t,t<dk.size->(sortWorldK lT 2 w blk 0 m dk os).cell? ⟨blk,t*2,none⟩=some (.int .i64 dk[t]!.cell)/\(sortWorldK lT 2 w blk 0 m dk os).cell? ⟨blk,t*2+1,none⟩=some (.int .i64 dk[t]!.row):=fun t l=>by
  have n:=(hHW.cell (i:=t) (c:=0) l (by omega)).1;have p:=(hHW.cell (i:=t) (c:=1) l (by omega)).1;rw[Nat.zero_add]at n p;exact⟨n,p⟩
 refine (WQ Bs blk d.size cap i j dk[i]! dk[j]! _ k s u h (cell i (by omega)).1 (cell i (by omega)).2 (cell j (by omega)).1 (cell j (by omega)).2).mono ?_;rintro e w' ⟨rfl,v⟩;exact⟨rfl,SWK.Fp hHW v⟩
noncomputable def uniT:TypeInfo:=(Tryz.prog.info? 115).get (by kernel_rfl)
noncomputable def abh:TypeInfo:=(Tryz.prog.info? 158).get (by kernel_rfl)
theorem afT:abh.hasPointers=false:=by kernel_rfl
theorem abf:abh.bytes=16:=by kernel_rfl
theorem uniK(n:Nat)(a:2<=n):Lib.swapperK n abh 25=9:=by
 have c:(n==0)=false:=by simp;omega
 have d:(n==1)=false:=by simp;omega
 simp[Lib.swapperK,afT,abf,c,d]
theorem afi(x:aj):(lT x).length=2:=rfl
theorem O3(x:aj):∀v∈lT x,v.oneCell'=true:=fun v a=>by
 simp[lT]at a;rcases a with rfl | rfl<;>rfl
theorem abe{Bs blk c:Nat}{d:Array aj}(hsz:d.size<4611686018427387904){w:World}(hH:HoldsK lT 2 w blk 0 d)(hblk:blk<w.heap.size)(hBs:w.cell? ⟨Bs,0,none⟩=some (.slice (some ⟨blk,0,none⟩) d.size c))(hB1:Bs<w.heap.size)(hB2:Bs≠blk) :
  Calls Tryz.prog 222 #[.iface 115 (.slice (some ⟨blk,0,none⟩) d.size c),.func (.func 223) #[] #[.pointer (some ⟨Bs,0,none⟩)]] w fun e w'=>
   e=.returned (.tuple #[])/\∃d',PermIn 0 d.size d d'/\SortedIn orB 0 d.size d'/\SWK lT 2 w blk 0 d' w':=by
 by_cases h2:2<=d.size
 ·exact ab4 l6 115 158 uniT abh (by kernel_rfl) (by kernel_rfl) (by kernel_rfl) (by kernel_rfl) 25 (fun _=>by kernel_rfl) lT 2 afi (by kernel_rfl) (fun _=>by kernel_rfl)
   O3 orB af0 223 _
   (enters_of Tryz.func223 (by kernel_rfl) rfl) blk 0 c d h2 hsz 245 (by rw[uniK _ h2];kernel_rfl) false
   (fun args W=>run_callFunc_extern Tryz.func245 (by kernel_rfl) (by kernel_rfl) (by kernel_rfl) (e:=Extern.ReflectliteSwapper.swap false) (by kernel_rfl) args W) w (WR hH hblk hBs hB1 hB2 hsz) hH hblk
 ·obtain ⟨f, hf⟩ : ∃ f, Tryz.prog.funcs.findIdx? (·.name == "internal/reflectlite" ++ ".Swapper$" ++ toString (Lib.swapperK d.size abh 25)) = some f := by
   have:d.size=0\/d.size=1:=by omega
   rcases this with h | h
   ·rw[h];exact⟨237,by kernel_rfl⟩
   ·rw[h];exact⟨238,by kernel_rfl⟩
  refine (Any.sort_Slice_tiny l6 115 158 uniT abh (by kernel_rfl) (by kernel_rfl) (by kernel_rfl) (by kernel_rfl) 25 (fun _=>by kernel_rfl) (some ⟨blk,0,none⟩) d.size c (by omega) f hf (.func 223) #[] #[.pointer (some ⟨Bs,0,none⟩)] w).mono ?_;rintro e w' ⟨rfl,os,rfl⟩;refine⟨rfl,d,⟨rfl,fun _ _=>rfl,List.Perm.refl _⟩,fun i j _ _ _=>by omega,SWK.Fp hH ⟨0,os,by rw[ahead_zero]⟩⟩
theorem afS{Bs g cap:Nat}{cur:Array Value}{E:TypeId}{os:List aj}{w:World}(r:w.heap[g]?=some (.cells cur E (0,0)))(hc:cur.size=cap*2)(L:os.length<=cap)(J:os.length<4611686018427387904)
  (u:∀(i:Nat) (o:aj),os[i]?=some o->cur[i*2]?=some (.int .i64 o.cell)/\cur[i*2+1]?=some (.int .i64 o.row))
  (hBs:w.cell? ⟨Bs,0,none⟩=some (.slice (some ⟨g,0,none⟩) os.length cap)) (v:Bs<w.heap.size) (z:Bs≠g) :
  Calls Tryz.prog 222 #[.iface 115 (.slice (some ⟨g,0,none⟩) os.length cap),.func (.func 223) #[] #[.pointer (some ⟨Bs,0,none⟩)]] w fun e w'=>
   e=.returned (.tuple #[])/\w'.os=w.os/\w'.tape=w.tape/\w'.output=w.output/\w.heap.size<=w'.heap.size/\(∀c,c<w.heap.size->c≠g->w'.heap[c]?=w.heap[c]?) /\
   ∃(cur':Array Value) (ys:List aj),ys.Perm os/\ys.Pairwise (fun x y=>orB y x=false)/\w'.heap[g]?=some (.cells cur' E (0,0))/\cur'.size=cap*2/\∀(i:Nat) (o:aj),ys[i]?=some o->cur'[i*2]?=some (.int .i64 o.cell)/\cur'[i*2+1]?=some (.int .i64 o.row):=by
 have a:g<w.heap.size:=(aM.1 r).1;have b:os.toArray.size=os.length:=by simp
 have I:HoldsK lT 2 w g 0 os.toArray:=by
  intro j f;have k:j<os.length*2:=by simpa using f
  have e:w.cell? ⟨g,0+j,none⟩=cur[j]?:=by simp[World.cell?,r]
  have d:j / 2<os.length:=by omega
  obtain⟨o,l⟩:∃o,os[j / 2]?=some o:=⟨_,zF d⟩;obtain⟨s,t⟩:=u (j / 2) o l;refine⟨?_,?_⟩
  ·rw[e,getElem!_pos _ j f];have ek:(flatK lT 2 os.toArray)[j]'f=(lT o)[j % 2]!:=by
    simp[flatK,l]
   rw[ek];rcases Nat.mod_two_eq_zero_or_one j with h | h
   ·have A:j / 2*2=j:=by omega
    rw[h,<- A,s];rfl
   ·have A:j / 2*2+1=j:=by omega
    rw[h,<- A,t];rfl
  ·unfold World.frozen?;simp only[r];simp
 rw[<- b]at hBs;refine (show Calls _ _ _ _ _ from by rw[<- b];exact abe (by rw[b];exact J) I a hBs v z).mono ?_;rintro e w' ⟨rfl,d',hp,B,m⟩;have p:=m.holds a I hp.1;have C:d'.size=os.length:=by rw[hp.1,b]
 obtain⟨n,os',rfl⟩:=m;have q:(sortWorldK lT 2 w g 0 n d' os').heap[g]?=some (.cells (putCells id 0 (flatK lT 2 d') cur) E (0,0)):=by
  show ((putRow id (Sort.ahead w n) g 0 _).heap++os')[g]?=_
  rw[Array.getElem?_append_left (by rw[size_putRow];exact a)];show (w.heap.modify g _)[g]?=_
  rw[Array.getElem?_modify,if_pos rfl,r];rfl
 refine⟨rfl,rfl,rfl,rfl,?_,?_,putCells id 0 (flatK lT 2 d') cur,d'.toList,?_,?_,q,?_,?_⟩
 ·show _<=((putRow id (Sort.ahead w n) g 0 _).heap++os').size
  rw[Array.size_append,size_putRow];exact Nat.le_add_right _ _
 ·intro c D F;show ((putRow id (Sort.ahead w n) g 0 _).heap++os')[c]?=_
  rw[Array.getElem?_append_left (by rw[size_putRow];exact D)];show (w.heap.modify g _)[c]?=_
  rw[Array.getElem?_modify,if_neg (Ne.symm F)]
 ·have:=hp.2.2;rw[b,show d'.extract 0 os.length=d' by rw[<- C];simp,show os.toArray.extract 0 os.length=os.toArray by rw[<- b];simp]at this;simpa using this
 ·rw[List.pairwise_iff_getElem];intro i j d f G;have k:j<d'.size:=by simpa using f
  have H:i<d'.size:=by omega
  have:=B i j (Nat.zero_le _) G (by rw[b];omega);rw[getElem!_pos d' i H,getElem!_pos d' j k]at this;simpa using this
 ·unfold putCells;rw[Array.size_mapIdx];exact hc
 ·intro i o l;have d:i<d'.size:=by
   have:=(zC.1 l).1;simpa using this
  have K:d'[i]! = o:=by
   rw[getElem!_pos d' i d];have:=(zC.1 l).2;simpa using this
  have cell:∀x,(sortWorldK lT 2 w g 0 n d' os').cell? ⟨g,x,none⟩=(putCells id 0 (flatK lT 2 d') cur)[x]?:=fun x=>by simp[World.cell?,q]
  have s:=(p.cell (i:=i) (c:=0) d (by omega)).1;have t:=(p.cell (i:=i) (c:=1) d (by omega)).1;rw[Nat.zero_add,cell,K]at s t;exact⟨s,t⟩
end Go.Proofs.YtjbajpfonnnfoaaGreatDoor
/- The walk over impl.UnionOrigins: a map of the call's own keeps what was met; the list is sorted in place. -/
namespace Go.Proofs.YtjbajpfonnnfoaaGreatDoor
open Go.Abs Go.Proofs Go.Shelf Go.RowKit Go.Lib Go.Sort Go.Maps
theorem Ti{H:Type}{P:Program}{e:TypeId}(a:P.underlying e=some .bool){v:Value}{b:Bool}{ps:List MemPlace}(h:plainElem (H:=H) P e v=some (.lit (.bool b),ps)):v=.bool b:=by
 unfold plainElem at h;rw[a]at h;cases v<;>simp at h
 rw[h.1]
theorem qE{H:Type}{P:Program}(w:World){ops:Array Oper}{rest:List Oper}{o:Oper}{a:Act}{Q:Exit->Act->World->Prop}
  (j:o.guard=none) (m x:Operand) (t:TypeId) (d:o.op=Op.lookup t m x false)
  (k e:TypeId) (K:Keyed P k) (l:P.underlying t=some (.map k e)) (h:P.underlying e=some .bool) (p:(zeroValue e).run P w=.ok (.bool false) w) (b n:Nat) (D:DataW H)
  (q:a.eval m=.map (some b)) (hown:w.ownsMap P k (plainElem P e) b n D) (key:Value) (kl:Lit) (r:a.eval x=key) (hkey:keyOf P k key=some kl) (c:Bool) (f:D.atKey kl (.lit (.bool false))=.lit (.bool c))
  (s:wpList P ops Q rest (a.put o.dst (.bool c)) w) :
  wpList P ops Q (o::rest) a w:=by
 refine wpList_plain j fun K' g=>?_
 obtain⟨v,ps,hrun,i⟩:=hown.lookup K l p (plainElem_bool h false) hkey;rw[f]at i;have:=Ti h i;subst this;unfold Oper.wp;simp[execOp,d,q,r,hrun,Result.andThen];exact g _ _ s
theorem Tf:Tryz.prog.underlying 187=some (.map 158 4):=by kernel_rfl
theorem VI(w:World):(zeroValue 4).run Tryz.prog w=.ok (.bool false) w:=by kernel_rfl
theorem Lh:Tryz.prog.underlying 4=some .bool:=by kernel_rfl
theorem Le:Tryz.prog.underlying 115=some (.slice 158):=by kernel_rfl
theorem ada:(Tryz.prog.info? 158).map (fun i=>(i.zero,i.size,i.bytes))=some (some (.agg #[.int .i64 0,.int .i64 0]),2,16):=by kernel_rfl
theorem ac8:(match Tryz.prog.underlying 158 with | some (.array _ _) | some (.struct _)=>true | _=>false)=true:=by kernel_rfl
theorem Yr:(158:TypeId)<Tryz.prog.types.size:=of_decide_eq_true (by kernel_rfl)
theorem ac9:laidOutB Tryz.prog=true:=by kernel_rfl
set_option maxRecDepth 100000 in
theorem GZ:Keyed Tryz.prog 158:=Keyed.of_law (deep_law_laid ac9 (m:=2) (by omega) Yr (by kernel_rfl) ac8)
def okO(o:aj):Prop:=(Lit.int .i64 o.cell).wf=true/\(Lit.int .i64 o.row).wf=true
def D7(o:aj):Lit:=.string (keyBytes [.int .i64 o.cell,.int .i64 o.row])
theorem aeO{a b:aj}(d:okO a)(e:okO b)(h:D7 a=D7 b):a=b:=by
 have g:keyBytes [.int .i64 a.cell,.int .i64 a.row]=keyBytes [.int .i64 b.cell,.int .i64 b.row]:=by injection h
 have f:=keyBytes_inj (l:=[.int .i64 a.cell,.int .i64 a.row]) (l':=[.int .i64 b.cell,.int .i64 b.row]) (show Alike (_::_::[]) (_::_::[])from⟨rfl,rfl,trivial⟩) (fun l c=>by
  rcases ba.1 c with rfl | c
  ·exact d.1
  ·rw[List.mem_singleton.1 c];exact d.2) (fun l c=>by
  rcases ba.1 c with rfl | c
  ·exact e.1
  ·rw[List.mem_singleton.1 c];exact e.2) g
 cases a;cases b
 simp at f;simp[f]
theorem ag2{o:aj}(h:okO o):keyOf Tryz.prog 158 (.agg #[.int .i64 o.cell,.int .i64 o.row])=some (D7 o):=by
 obtain⟨n,c⟩:∃n,Tryz.prog.types.size=n+1:=Nat.exists_eq_succ_of_ne_zero (of_decide_eq_true (by kernel_rfl));have a:=Tryz.underlying158;have d:Tryz.prog.underlying 3=some (.int .i64):=by kernel_rfl
 have hk:Tryz.prog.keyType 158=true:=by kernel_rfl
 have hc:Tryz.prog.cellsOf 158=2:=by kernel_rfl
 have b:Tryz.prog.cellsOf 3=1:=by kernel_rfl
 have e:Tryz.prog.keyLits (Tryz.prog.types.size+1) 158 [.int .i64 o.cell,.int .i64 o.row]=some [.int .i64 o.cell,.int .i64 o.row]:=by
  rw[c];simp[Program.keyLits,a,d,hc,b,h.1,h.2]
 have hf:Value.formed Tryz.prog 158 (.agg #[.int .i64 o.cell,.int .i64 o.row])=true:=by
  unfold Value.formed;rw[a,hc];rfl
 unfold keyOf;rw[a];show (if (Tryz.prog.keyType 158&&Value.formed Tryz.prog 158 (.agg #[.int .i64 o.cell,.int .i64 o.row]))=true then (Tryz.prog.keyLits (Tryz.prog.types.size+1) 158 [.int .i64 o.cell,.int .i64 o.row]).map (fun ls=>Lit.string (keyBytes ls))else none)=_
 rw[hk,hf,e];rfl
theorem ahD{H:Type}{x:aj}(f:okO x):∀acc:List aj,(∀o,o∈acc->okO o)->(setOf (H:=H) (.lit (.bool true)) (acc.map D7)).atKey (D7 x) (.lit (.bool false))=.lit (.bool (acc.any (eqO x))):=by
 have key:∀r:List aj,(∀o,o∈r->okO o)->(setOf (H:=H) (.lit (.bool true)) (r.reverse.map D7)).atKey (D7 x) (.lit (.bool false))=.lit (.bool (r.reverse.any (eqO x))):=by
  intro r;induction r with
  | nil=>intro _;rfl
  | cons y r ih=>
   intro d;rw[List.reverse_cons,List.map_append,List.map_singleton,setOf_snoc];by_cases a:x=y
   ·subst a;have g:Tidy (setOf (H:=H) (.lit (.bool true)) (r.reverse.map D7)):=tidy_setOf _ _ fun z i=>by
     obtain⟨y,_,rfl⟩:=List.mem_map.1 i;exact True.intro
    rw[atKey_put_same (k:=D7 x) g.isMap True.intro];simp[O1]
   ·have b:D7 x≠D7 y:=fun e=>a (aeO f (d y aq) e)
    have j:eqO x y=false:=by
     cases e:eqO x y with
     | false=>rfl
     | true=>exact absurd (uO.1 e) a
    rw[atKey_put_other b,ih fun o c=>d o (ao _ c)];simp[j]
 intro acc h;have:=key acc.reverse (fun o c=>h o (List.mem_reverse.1 c));rwa [List.reverse_reverse]at this
def kD(xs:List aj):List Value:=xs.flatMap lT
theorem BQ:∀xs:List aj,(kD xs).length=xs.length*2
 | []=>rfl
 | x::r=>by
  show (lT x++kD r).length=_
  rw[a6,BQ r];show 2+_=_
  simp;omega
theorem RQ(xs ys:List aj):kD (xs++ys)=kD xs++kD ys:=List.flatMap_append
theorem xk:∀(xs:List aj) (i:Nat) (o:aj),xs[i]?=some o->(kD xs)[i*2]?=some (.int .i64 o.cell)/\(kD xs)[i*2+1]?=some (.int .i64 o.row)
 | [],i,o,h=>by simp at h
 | x::r,0,o,h=>by
  simp at h;subst h;exact⟨rfl,rfl⟩
 | x::r,i+1,o,h=>by
  have:=xk r i o (by simpa using h);show (lT x++kD r)[(i+1)*2]?=_/\(lT x++kD r)[(i+1)*2+1]?=_
  rw[List.getElem?_append_right (by show 2<=_;omega),List.getElem?_append_right (by show 2<=_;omega)];rw[show (i+1)*2-(lT x).length=i*2 by show (i+1)*2-2=_;omega,show (i+1)*2+1-(lT x).length=i*2+1 by show (i+1)*2+1-2=_;omega];exact this
theorem RP(xs:List aj):∀u∈kD xs,u.oneCell'=true:=fun u a=>by
 obtain⟨o,_,b⟩:=List.mem_flatMap.1 a;exact O3 o u b
theorem afc{xs:List aj}{j:Nat}{v:Value}(h:(kD xs)[j]?=some v):∃o,xs[j / 2]?=some o/\(lT o)[j % 2]?=some v:=by
 have f:j<xs.length*2:=by rw[<- BQ];exact (zC.1 h).1
 have b:j / 2<xs.length:=by omega
 obtain⟨c,d⟩:=xk xs (j / 2) _ (zF b);refine⟨_,zF b,?_⟩;rcases Nat.mod_two_eq_zero_or_one j with e | e
 ·have a:j / 2*2=j:=by omega
  rw[a,h]at c;rw[e,c];rfl
 ·have a:j / 2*2+1=j:=by omega
  rw[a,h]at d;rw[e,d];rfl
def PK(w:World)(xs:List aj)(u:Value):Prop:=(u=.slice none 0 0/\xs=[])\/∃ad cap,u=.slice (some ad) xs.length cap/\∀j v,(kD xs)[j]?=some v->ad.block<w.heap.size/\w.cell? (ad.add j)=some v
theorem Jd{w:World}{S:Nat->Nat->Prop}{xs:List aj}{u:Value}(l:Rep w S (.list (.base .origin) xs) u)(n:∀b o,S b o->b<w.heap.size):PK w xs u:=by
 generalize c:D.list (.base .origin) xs=d at l;cases l with
 | int=>cases c
 | bool=>cases c
 | str=>cases c
 | nil t=>cases c;exact .inl ⟨rfl,rfl⟩
 | emp t a cap=>cases c;exact .inr ⟨a,cap,rfl,fun j v h=>by simp[kD]at h⟩
 | list t xs' b off cap vs hcap hc i=>
  cases c
  refine .inr ⟨_,cap,rfl,fun j v h=>?_⟩;obtain⟨o,k,f⟩:=afc h;have c:∃d,((Ty.base .origin).cells o)[j % 2]?=some d/\∀u,Rep w S d u->u=v:=by
   rcases Nat.mod_two_eq_zero_or_one j with e | e
   ·rw[e]at f ⊢;simp[lT]at f;exact⟨_,rfl,fun u g=>by rw[Bq g,<- f]⟩
   ·rw[e]at f ⊢;simp[lT]at f;exact⟨_,rfl,fun u g=>by rw[Bq g,<- f]⟩
  obtain⟨d,c,g⟩:=c;have m:=(hc (j / 2) o (j % 2) d k c).1;have p:=g _ (i (j / 2) o (j % 2) d k c);have q:=n _ _ (hc (j / 2) o (j % 2) d k c).2;have e:j / 2*(Ty.base .origin).size+j % 2=j:=by show j / 2*2+j % 2=j;omega
  rw[e,p]at m;refine⟨q,?_⟩;rw[show (⟨b,off,none⟩:Addr).add j=⟨b,off+j,none⟩ by unfold Addr.add;split<;>simp_all]
  exact m
theorem PK.below{w w':World}{xs:List aj}{u:Value}(h:PK w xs u)(a:Below w.heap.size w w'):PK w' xs u:=by
 rcases h with h | ⟨ad,cap,rfl,h⟩
 ·exact .inl h
 ·refine .inr ⟨ad,cap,rfl,fun j v c=>?_⟩;obtain⟨b,d⟩:=h j v c;have e:(ad.add j).block=ad.block:=by unfold Addr.add;split<;>rfl
  exact⟨aD b a.size,(a.cell (p:=ad.add j) (by rw[e];exact b)).trans d⟩
section
variable {P:Program} (w:World)
theorem ug{ops:Array Oper}{rest:List Oper}{o:Oper}{a:Act}{Q:Exit->Act->World->Prop}(b:o.guard=none)(s x:Operand)(t:TypeId)
  (B:o.op=.call { callee:=.builtin .append,args:=#[s,x],argTypes:=#[t,t] })
  (base:Nat) (e:TypeId) (i:TypeInfo) (z:Value) (size bytes:Nat) (d:P.underlying t=some (.slice e)) (C:P.info? e=some i) (H:i.zero=some z)
  (hsize:i.size=size) (f:i.bytes=bytes) (k:z.cells.size=size) (l:0<size)
  (v:Value) (n:Nat) (xs:List Value) (D:a.eval s=v) (hown:w.ownsRow base e size v n xs) (p:v≠.slice none 0 0)
  (u:Value) (m:Nat) (news:List Value) (E:a.eval x=u) (F:news.length=m*size) (hsrc:(u=.slice none 0 0/\m=0)\/∃ad c,u=.slice (some ad) m c/\∀j q,news[j]?=some q->w.cell? (ad.add j)=some q) (I:∀u∈news,u.oneCell'=true)
  (r:n+m<=maxLen) (hbytes:(n+m)*bytes<=140737488355328) (hbase:base<=w.heap.size)
  (h:∀v' w',w'.ownsRow base e size v' (n+m) (xs++news)->w.grownBy w' v.ownBlock->v'≠.slice none 0 0->(v'.ownBlock=v.ownBlock\/v'.ownBlock=some w.heap.size)->wpList P ops Q rest (a.put o.dst v') w') :
  wpList P ops Q (o::rest) a w:=by
 rcases hsrc with ⟨rfl,rfl⟩ | ⟨ad,c,rfl,hnews⟩
 ·have J:news=[]:=List.eq_nil_of_length_eq_zero (by simpa using F);subst J;refine wpList_plain b fun K L=>?_
  have hown':=hown;obtain⟨hlen,M | ⟨g,cap,cur,rfl,N,W,y,O,R,htake⟩⟩:=hown
  ·exact absurd M.1 p
  have G:=run_append_room_src (P:=P) w t t o.type e i d C g 0 n cap (.slice none 0 0) 0 [] (Src.ofNil (P:=P) w d 0) y (fun j A=>by simp at A) (fun j A=>by simp at A);simp only[World.setCells,Nat.add_zero]at G;unfold Oper.wp execOp;simp only[B,resolve,invoke,builtin,Sem.run_bind,Sem.run_pure,Result.andThen_ok,List.map_toArray,List.map_cons,List.map_nil,D,E,G];exact L _ _ (h _ _ (by simpa using hown') (World.grownBy.refl _ _) p (.inl rfl))
 ·exact wpList_append_own_at w b s x t B base e i z size bytes d C H hsize f k l v n xs D hown ad m c news E F hnews I r hbytes hbase fun v' w' S T U V=>h v' w' S T (fun q=>p (U.1 q).1) V
end
theorem fU(w:World)(a:Addr)(v:Value):w.grownBy (w.setCell a v) (some a.block):=
 ⟨rfl,rfl,rfl,by simp[World.setCell],fun k _ b=>Below.heap_setCell w a v k fun e=>b (by rw[e])⟩
def iZ(zs:List aj)(k:Nat):List aj:=(zs.take k).foldl A7 []
noncomputable def Nw(zs:List aj)(k:Nat):DataW Unit:=setOf (.lit (.bool true)) ((iZ zs k).map D7)
theorem Zb(zs:List aj){k:Nat}{x:aj}(h:zs[k]?=some x):iZ zs (k+1)=A7 (iZ zs k) x:=by
 unfold iZ;obtain⟨hk,rfl⟩:=zC.1 h;rw[List.take_add_one,List.foldl_append,h];rfl
theorem aej(zs:List aj)(k:Nat):(iZ zs k).length<=k:=by
 unfold iZ;have:=su (zs.take k) [];rw[a8]at this;simp at this;omega
theorem aei{zs:List aj}(h:∀o,o∈zs->okO o)(k:Nat):∀o,o∈iZ zs k->okO o:=fun o b=>by
 rcases ((DV (zs.take k) [] List.nodup_nil).2 o).1 b with a | a
 ·cases a
 ·exact h o (List.mem_of_mem_take a)
structure xE(N:Nat)(w wr:World)(zs:List aj)(vS v:Value)(k:Nat):Prop where
 map:wr.ownsMap Tryz.prog 158 (plainElem (H:=Unit) Tryz.prog 4) N k (Nw zs k)
 box:wr.cell? ⟨N+2,0,none⟩=some v
 fro:wr.frozen? ⟨N+2,0,none⟩=false
 row:wr.ownsRow (N+1) 158 2 v (iZ zs k).length (kD (iZ zs k))
 src:wr.ownsRow (N+3) 158 2 vS zs.length (kD zs)
 bel:Below N w wr
 big:N+4<=wr.heap.size
 nv:v≠.slice none 0 0
 ne:v.ownBlock≠vS.ownBlock
 nb:v.ownBlock≠some (N+2)
theorem xE.ajF{N:Nat}{w wr:World}{zs:List aj}{vS v:Value}{k:Nat}(h:xE N w wr zs vS v k){j:Nat}(a:j<N+3):some j≠vS.ownBlock:=fun e=>by
 have:=(h.src.lt j e.symm).1;omega
theorem xE.row_ne{N:Nat}{w wr:World}{zs:List aj}{vS v:Value}{k:Nat}(h:xE N w wr zs vS v k){j:Nat}(a:j<N+1):some j≠v.ownBlock:=fun e=>by
 have:=(h.row.lt j e.symm).1;omega
theorem xE.step{N:Nat}{w wr w':World}{zs:List aj}{vS v:Value}{k:Nat}(h:xE N w wr zs vS v k){b:Nat}(d:wr.heap.size<=b)(a:wr.grownBy w' (some b)):xE N w w' zs vS v k where
 map:=h.map.kept a (by have:=h.big;intro e;injection e with e;omega)
 box:=a.cell h.box (by have:=h.big;intro e;injection e with e;simp at e;omega)
 fro:=(a.frozen_far _ (by have:=h.big;show N+2<_;omega) (by have:=h.big;intro e;injection e with e;simp at e;omega)).trans h.fro
 row:=h.row.kept a (.inr fun e=>by have:=(h.row.lt b e).2;omega)
 src:=h.src.kept a (.inr fun e=>by have:=(h.src.lt b e).2;omega)
 bel:=h.bel.grown a (by have:=h.big;omega) (fun j c=>by cases c;have:=h.big;omega)
 big:=Nat.le_trans h.big a.size
 nv:=h.nv
 ne:=h.ne
 nb:=h.nb
def VB(zs:List aj)(w:World)(e:Ending)(w':World):Prop:=
 ∃g cap cur E,∃ys:List aj,e=.returned (.slice (some ⟨g,0,none⟩) ys.length cap)/\ys.Perm (yP zs)/\ys.Pairwise (fun x y=>orB y x=false)/\w.heap.size<=g/\Below w.heap.size w w'/\w'.heap[g]?=some (.cells cur E (0,0))/\cur.size=cap*2/\ys.length<=cap/\cap<=maxLen /\
  ∀(i:Nat) (o:aj),ys[i]?=some o->cur[i*2]?=some (.int .i64 o.cell)/\cur[i*2+1]?=some (.int .i64 o.row)
theorem afU{zs:List aj}{w wr:World}{vS v:Value}(E:zs.length<=34359738368)(h:xE w.heap.size w wr zs vS v zs.length) :
  Calls Tryz.prog 222 #[.iface 115 v,.func (.func 223) #[] #[.pointer (some ⟨w.heap.size+2,0,none⟩)]] wr fun e w'=>e=.returned (.tuple #[])/\w'.cell? ⟨w.heap.size+2,0,none⟩=some v/\VB zs w (.returned v) w':=by
 have t:iZ zs zs.length=yP zs:=by unfold iZ yP;rw[List.take_length]
 have hrow:=h.row;have f:=h.nb;have j:=h.nv;have a:=h.box;have hbel:=h.bel;have hbig:=h.big;rw[t]at hrow;have u:(yP zs).length<=zs.length:=ab9 zs;obtain⟨hlen,hrow⟩:=hrow;clear h;rcases hrow with ⟨h,_⟩ | ⟨g,cap,cur,rfl,F,x,hcap,hmax,k,l⟩
 ·exact absurd h j
 have b:w.heap.size+2≠g:=fun e=>f (by show some g=_;rw[e])
 have m:∀(i:Nat) (o:aj),(yP zs)[i]?=some o->cur[i*2]?=some (.int .i64 o.cell)/\cur[i*2+1]?=some (.int .i64 o.row):=by
  intro i o q;have G:=(zC.1 q).1;obtain⟨r,d⟩:=xk _ i o q;rw[<- l,List.getElem?_take,if_pos (by omega),Array.getElem?_toList]at r d;exact⟨r,d⟩
 refine (afS (Bs:=w.heap.size+2) x k hcap (by omega) m a (by omega) b).mono ?_;rintro e w' ⟨rfl,d,y,z,A,s,cur',ys,hp,n,B,C,D⟩;have p:ys.length=(yP zs).length:=hp.length_eq;refine⟨rfl,?_,g,cap,cur',_,ys,by rw[p],hp,n,by omega,?_,B,C,by omega,hmax,D⟩
 ·rw[<- a];exact World.cell?_of_block (s _ (by show w.heap.size+2<_;omega) b)
 ·have n:=hbel.size;exact⟨d.trans hbel.os,y.trans hbel.tape,z.trans hbel.output,Nat.le_trans n A,fun c hc=>(s c (by omega) (by omega)).trans (hbel.block c hc)⟩
theorem WM{W:World}{E:TypeId}{g base:Nat}(a:W.heap.size=g)(b:base<=g):(W.alloc (.cells #[] E)).ownsRow base E 2 (.slice (some ⟨g,0,none⟩) 0 0) 0 []:=by
 subst a;exact World.ownsRow_made (base:=base) (e:=E) (size:=2) W #[] 0 b (by unfold maxLen;omega) rfl
theorem Rj{W:World}{E:TypeId}{base n:Nat}{v:Value}{xs:List Value}(h:W.ownsRow base E 2 v n xs)(a:v≠.slice none 0 0):∃g cap,v=.slice (some ⟨g,0,none⟩) n cap:=by
 obtain⟨_,h | ⟨g,cap,_,rfl,_⟩⟩:=h
 ·exact absurd h.1 a
 ·exact⟨g,cap,rfl⟩
theorem cell_two_new(w:World)(x y:Value)(t:TypeId):∀j u,[x,y][j]?=some u->(w.alloc (.cells #[x,y] t)).cell? ((⟨w.heap.size,0,none⟩:Addr).add j)=some u:=World.news_of_block (MapKept.heap_alloc w _).1
abbrev Yt(w:World):World:=(((w.alloc (.map #[] 0)).alloc (.cells #[] 158)).alloc (.cells #[.slice (some ⟨w.heap.size+1,0,none⟩) 0 0] 115)).alloc (.cells #[] 158)
theorem Dh(w:World):Below w.heap.size w (Yt w):=((((Below.refl _ _).alloc (ar _) _).alloc (by simp) _).alloc (by simp;omega) _).alloc (by simp;omega) _
theorem QN(w:World):(Yt w).heap.size=w.heap.size+4:=by simp[Yt]
theorem PK.use{w:World}{xs:List aj}{u:Value}(h:PK w xs u):(u=.slice none 0 0/\xs.length=0)\/∃ad c,u=.slice (some ad) xs.length c/\∀j q,(kD xs)[j]?=some q->w.cell? (ad.add j)=some q:=by
 rcases h with ⟨a,rfl⟩ | ⟨ad,c,a,b⟩
 ·exact .inl ⟨a,rfl⟩
 ·exact .inr ⟨ad,c,a,fun j q d=>(b j q d).2⟩
theorem ade(w:World):(Yt w).cell? ⟨w.heap.size+2,0,none⟩=some (.slice (some ⟨w.heap.size+1,0,none⟩) 0 0):=by
 rw[World.cell?_alloc_past _ _ _ (by simp),World.cell?_alloc_at _ _ _ _ (by simp)];rfl
theorem adb(w:World):(Yt w).frozen? ⟨w.heap.size+2,0,none⟩=false:=by
 rw[((World.grownBy_alloc _ _ none).frozen_far ⟨w.heap.size+2,0,none⟩ (by show w.heap.size+2<_;simp) (by simp)),World.frozen?_alloc_at _ _ _ _ (by simp)]
theorem Lj{w w1:World}(h:(Yt w).grownBy w1 (some (w.heap.size+3))):Below w.heap.size w w1/\w.heap.size+4<=w1.heap.size:=by
 have a:=QN w;have b:=h.size;exact⟨(Dh w).grown h (by omega) (fun k hk=>by injection hk with hk;omega),by omega⟩
theorem xE.start{w w1 w2:World}{r:Option Nat}{zs:List aj}{vS:Value}(a:(Yt w).grownBy w1 (some (w.heap.size+3)))(b:w1.grownBy w2 r)(c:∀j,r=some j->w.heap.size+3<=j)
  (d:w2.ownsRow (w.heap.size+3) 158 2 vS zs.length (kD zs)):xE w.heap.size w w2 zs vS (.slice (some ⟨w.heap.size+1,0,none⟩) 0 0) 0:=by
 have g:=QN w;have h:=a.size;have i:=b.size;have far:∀j,j<w.heap.size+3->some j≠r:=fun j f e=>by have:=c _ e.symm;omega
 have far1:∀j,j<w.heap.size+3->some j≠some (w.heap.size+3):=fun j f e=>by injection e with e;omega
 refine⟨?_,?_,?_,?_,d,?_,by omega,by simp,?_,?_⟩
 ·exact (((((World.ownsMap_made w _ _ _).alloc _).alloc _).alloc _).kept a (far1 _ (by omega))).kept b (far _ (by omega))
 ·exact b.cell (a.cell (ade w) (far1 _ (by show w.heap.size+2<_;omega))) (far _ (by show w.heap.size+2<_;omega))
 ·exact (b.frozen_far _ (by show w.heap.size+2<_;omega) (far _ (by show w.heap.size+2<_;omega))).trans ((a.frozen_far _ (by show w.heap.size+2<_;omega) (far1 _ (by show w.heap.size+2<_;omega))).trans (adb w))
 ·exact ((((WM (W:=w.alloc (.map #[] 0)) (by simp) (ar _)).alloc _).alloc _).kept a (.inr (far1 (w.heap.size+1) (by omega)))).kept b (.inr (far (w.heap.size+1) (by omega)))
 ·exact ((Dh w).grown a (by omega) (fun k hk=>by injection hk with hk;omega)).grown b (by omega) (fun k hk=>by have:=c k hk;omega)
 ·intro e;have:=(d.lt (w.heap.size+1) e.symm).1;omega
 ·intro e;have e:some (w.heap.size+1)=some (w.heap.size+2):=e;injection e with e;omega
theorem vK(w:World)(o:Obj):w.grownBy (w.alloc o) (some w.heap.size):=World.grownBy_alloc w o _
theorem xE.more{N:Nat}{w wr w1 w2:World}{zs:List aj}{vS v a:Value}{k:Nat}{x:aj}(h:xE N w wr zs vS v k)(u:iZ zs (k+1)=iZ zs k++[x]){c:World}{b:Nat}(y:wr.heap.size<=b)
  (hc:wr.grownBy c (some b)) (z:w1.ownsMap Tryz.prog 158 (plainElem (H:=Unit) Tryz.prog 4) N (k+1) ((Nw zs k).put (D7 x) (.lit (.bool true)))) (g:c.grownBy w1 (some N))
  {o:Obj} (A:w2.ownsRow (N+1) 158 2 a ((iZ zs k).length+1) (kD (iZ zs k)++lT x)) (f:(w1.alloc o).grownBy w2 v.ownBlock) (n:a≠.slice none 0 0) (i:a.ownBlock=v.ownBlock\/a.ownBlock=some (w1.alloc o).heap.size) :
  xE N w (w2.setCell ⟨N+2,0,none⟩ a) zs vS a (k+1):=by
 have m:=h.step y hc;have big:=h.big;have s0:=hc.size;have D:=g.size;have s2:=f.size;have E:(w1.alloc o).heap.size=w1.heap.size+1:=by simp
 have hset:=fU w2 ⟨N+2,0,none⟩ a;have l:(some (N+2):Option Nat)≠some N:=fun e=>by injection e with e;omega
 have p:(some N:Option Nat)≠some (N+2):=fun e=>by injection e with e;omega
 have r:(w1.alloc o).cell? ⟨N+2,0,none⟩=some v:=(World.grownBy_alloc w1 o none).cell (g.cell m.box l) (by simp);have s:w2.cell? ⟨N+2,0,none⟩=some v:=f.cell r (Ne.symm h.nb);have src1:(w1.alloc o).ownsRow (N+3) 158 2 vS zs.length (kD zs):=(m.src.kept g (.inr (Ne.symm (h.ajF (by omega))))).alloc o;have src2:=src1.kept f (.inr (Ne.symm h.ne));have d:a.ownBlock≠some (N+2):=fun e=>by
  rcases i with q | q
  ·exact h.nb (q.symm.trans e)
  ·rw[q]at e;injection e with e;omega
 refine⟨?_,?_,?_,?_,src2.kept hset (.inr fun e=>?_),?_,?_,n,?_,d⟩
 ·have:Nw zs (k+1)=(Nw zs k).put (D7 x) (.lit (.bool true)):=by unfold Nw;rw[u,List.map_append,List.map_singleton,setOf_snoc]
  rw[this];exact ((z.alloc o).kept f (h.row_ne (by omega))).kept hset p
 ·exact World.cell?_setCell_same w2 _ _ (by rw[s])
 ·have B:w1.frozen? ⟨N+2,0,none⟩=false:=(g.frozen_far _ (by show N+2<_;omega) l).trans m.fro;have C:w2.frozen? ⟨N+2,0,none⟩=false:=(f.frozen_far _ (by show N+2<_;omega) (Ne.symm h.nb)).trans (((World.grownBy_alloc w1 o none).frozen_far _ (by show N+2<_;omega) (by simp)).trans B);rw[World.frozen?_setCell];exact C
 ·rw[u,a6,RQ];have:kD [x]=lT x:=by simp[kD]
  rw[this];exact A.kept hset (.inr d)
 ·have:=(h.src.lt (N+2) e).1;omega
 ·exact (((m.bel.grown g (by omega) (fun j t=>by cases t;exact ar _)).alloc (by omega) o).grown f (by omega) (fun j t=>by have:=(h.row.lt j t).1;omega)).setCell (by show N<=N+2;omega) _
 ·have:(w2.setCell ⟨N+2,0,none⟩ a).heap.size=w2.heap.size:=by simp[World.setCell]
  omega
 ·intro e;rcases i with q | q
  ·exact h.ne (q.symm.trans e)
  ·rw[q]at e;have:=(h.src.lt _ e.symm).2;omega
theorem xE.same{N:Nat}{w wr:World}{zs:List aj}{vS v:Value}{k:Nat}(h:xE N w wr zs vS v k)(b:iZ zs (k+1)=iZ zs k):xE N w wr zs vS v (k+1):=by
 obtain⟨c,d,e,f,g,i,j,l,m,a⟩:=h;refine⟨?_,d,e,by rw[b];exact f,g,i,j,l,m,a⟩;unfold Nw at c ⊢;rw[b];exact c.mono (Nat.le_succ _)
set_option maxHeartbeats 8000000 in
set_option maxRecDepth 100000 in
theorem Yq(a b:List aj)(ua ub:Value)(w:World)(I:PK w a ua)(J:PK w b ub)(A:a.length+b.length<=34359738368)(p:∀o,o∈a++b->okO o) :
  Calls Tryz.prog 203 #[ua,ub] w fun e w'=>VB (a++b) w e w':=by
 have N:=@run_makeMap Tryz.prog;obtain⟨i0,B,h,l,m⟩:=info_parts ada;have HA:Hid (PK w a ua):=I;have HB:Hid (PK w b ub):=J;have HO:Hid (∀o,o∈a++b->okO o):=p;clear I J p;go_enter Tryz.func203,Tryz.ntmps203
 go_wp2_with (first
  | (at_builtin;refine ug _ rfl _ _ 115 rfl (w.heap.size+3) 158 i0 (.agg #[.int .i64 0,.int .i64 0]) 2 16 Le B h l m rfl (by decide) (.slice (some ⟨w.heap.size+3,0,none⟩) 0 0) 0 [] rfl (WM (by simp) (by omega)) (by simp) ua a.length (kD a) rfl (BQ a) (HA.out.below (Dh w)).use (RP a) (by unfold maxLen;omega) (by omega) (by simp) ?_;intro O w1 hown1 hgrow1 g r;rw[Nat.zero_add,List.nil_append]at hown1)
  | (at_builtin;refine ug _ rfl _ _ 115 rfl (w.heap.size+3) 158 i0 (.agg #[.int .i64 0,.int .i64 0]) 2 16 Le B h l m rfl (by decide) O a.length (kD a) rfl hown1 g ub b.length (kD b) rfl (BQ b) ?_ (RP b) ?_ ?_ ?_ ?_)
  | go_in)
 ·exact (HB.out.below (Lj hgrow1).1).use
 ·unfold maxLen;omega
 ·omega
 ·exact Nat.le_trans (Nat.le_succ _) (Lj hgrow1).2
 intro K w2 hown2 hgrow2 c d;rw[<- RQ,<- a6]at hown2;obtain⟨gS,capS,rfl⟩:=Rj hown2 c;have C:Hid (xE w.heap.size w w2 (a++b) (.slice (some ⟨gS,0,none⟩) (a++b).length capS) (.slice (some ⟨w.heap.size+1,0,none⟩) 0 0) 0):=xE.start hgrow1 hgrow2 (fun j P=>(hown1.lt j P).1) hown2;clear hown1 hgrow1 g r hown2 hgrow2 c d;have A:(a++b).length<=34359738368:=by rw[a6];exact A
 generalize D:a++b=zs at C HO A ⊢;go_wp2
 go_loopw [17] (fun i wr=>∃(k:Nat) (v:Value),k<=zs.length/\i=.int .i64 k/\Hid (xE w.heap.size w wr zs (.slice (some ⟨gS,0,none⟩) zs.length capS) v k)) (fun i _=>zs.length-(intOf i).toNat)
 case atStart=>exact⟨0,_,Nat.zero_le _,rfl,C⟩
 case round=>
  clear C HA HB
  obtain⟨k,v,hk,rfl,H⟩:=hrel
  have hbox:=H.out.box
  have hfro:=H.out.fro
  by_cases E:k<zs.length
  ·obtain⟨x,n⟩:∃x,zs[k]?=some x:=⟨_,zF E⟩;have Q:wr.cell? ⟨gS,k*2,none⟩=some (.int .i64 x.cell):=(H.out.src.cellAt (k*2) (by omega)).trans (xk zs k x n).1;have R:wr.cell? ⟨gS,k*2+1,none⟩=some (.int .i64 x.row):=(H.out.src.cellAt (k*2+1) (by omega)).trans (xk zs k x n).2;have hokx:=HO.out x (zG n);have hkey:=ag2 hokx;have f:=ahD (H:=Unit) hokx (iZ zs k) (aei HO.out k);change (Nw zs k).atKey (D7 x) (.lit (.bool false))=_ at f;have hsucc:iZ zs (k+1)=A7 (iZ zs k) x:=Zb zs n;have F:=aej zs k;cases hcon:(iZ zs k).any (eqO x)with
   | true=>
    rw[hcon]at f;have s:iZ zs (k+1)=iZ zs k:=by rw[hsucc];unfold A7;rw[if_pos hcon]
    have HA:Hid (iZ zs (k+1)=iZ zs k):=s;clear hsucc s hcon n F;go_wp2_with (first
     | (at_lookup;refine qE _ rfl _ _ 187 rfl 158 4 GZ Tf Lh (VI _) w.heap.size k _ rfl (H.out.map.alloc _) _ _ rfl hkey true f ?_)
     | go_in)
    go_roundw
    case rel=>exact⟨k+1,v,by omega,by go_num,(H.out.step (ar _) (vK wr _)).same HA.out⟩
    case measure=>simp[intOf];omega
   | false=>
    rw[hcon]at f;have s:iZ zs (k+1)=iZ zs k++[x]:=by rw[hsucc];unfold A7;rw[if_neg (by rw[hcon];simp)]
    have HA:Hid (iZ zs (k+1)=iZ zs k++[x]):=s;clear hsucc s hcon n;have HB2:Hid (w.heap.size+4<=wr.heap.size):=H.out.big;have hNB:Hid (v.ownBlock≠some (w.heap.size+2)):=H.out.nb;have t:Hid ((some (w.heap.size+2):Option Nat)≠some w.heap.size):=fun e=>by injection e with e;omega
    have u:Hid ((some wr.heap.size:Option Nat)≠some w.heap.size):=fun e=>by have:=HB2.out;injection e with e;omega
    have y:∀o:Obj,(wr.alloc o).cell? ⟨w.heap.size+1+1,0,none⟩=some v:=fun o=>(World.grownBy_alloc wr o none).cell H.out.box (by simp)
    have z:∀o:Obj,(wr.alloc o).frozen? ⟨w.heap.size+1+1,0,none⟩=false:=fun o=>((World.grownBy_alloc wr o none).frozen_far _ (by have:=HB2.out;show w.heap.size+2<_;omega) (by simp)).trans H.out.fro
    have BX:Hid _:=y;have FX:Hid _:=z;clear y z;go_wp2_with (first
     | (at_lookup;refine qE _ rfl _ _ 187 rfl 158 4 GZ Tf Lh (VI _) w.heap.size k _ rfl (H.out.map.alloc _) _ _ rfl hkey false f ?_)
     | (at_mapUpdate;refine wpList_mapUpdate_own _ rfl _ _ _ 187 rfl 158 4 GZ Tf (plainElem (H:=Unit) Tryz.prog 4) w.heap.size k _ rfl (H.out.map.alloc _) (by unfold maxLen;omega) _ _ _ rfl rfl hkey _ [] (plainElem_bool Lh true) ?_;intro w1 hown1 hgrow1
        have hbox1:w1.cell? ⟨w.heap.size+1+1,0,none⟩=some v:=hgrow1.cell (BX.out _) t.out
        have hfro1:w1.frozen? ⟨w.heap.size+1+1,0,none⟩=false:=(hgrow1.frozen_far _ (by have:=HB2.out;show w.heap.size+2<_;simp;omega) t.out).trans (FX.out _)
        have S:w1.cell? ⟨wr.heap.size,0,none⟩=some (.int .i64 x.cell):=hgrow1.cell (by simp) u.out
        have T:w1.cell? ⟨wr.heap.size,1,none⟩=some (.int .i64 x.row):=hgrow1.cell (by simp) u.out)
     | (at_builtin;refine wpList_append_own_at _ rfl _ _ 115 rfl (w.heap.size+1) 158 i0 (.agg #[.int .i64 0,.int .i64 0]) 2 16 Le B h l m rfl (by decide) v _ _ rfl (((H.out.step (ar _) (vK wr _)).row.kept hgrow1 (.inr (Ne.symm (H.out.row_ne (by omega))))).alloc _) ⟨w1.heap.size,0,none⟩ 1 1 (lT x) rfl rfl (cell_two_new _ _ _ _) (O3 x) (by unfold maxLen;omega) (by omega) (by have:=hgrow1.size;have:=HB2.out;simp at *;omega) ?_;intro K w2 hown2 hgrow2 hnil2 d
        have c:K≠.slice none 0 0:=fun q=>H.out.nv (hnil2.1 q).1
        obtain⟨V,cap2,rfl⟩:=Rj hown2 c
        have hbox2:w2.cell? ⟨w.heap.size+1+1,0,none⟩=some v:=hgrow2.cell ((World.grownBy_alloc w1 _ none).cell hbox1 (by simp)) (Ne.symm hNB.out)
        have hfro2:w2.frozen? ⟨w.heap.size+1+1,0,none⟩=false:=(hgrow2.frozen_far _ (by have:=HB2.out;have:=hgrow1.size;show w.heap.size+2<_;simp at *;omega) (Ne.symm hNB.out)).trans (((World.grownBy_alloc w1 _ none).frozen_far _ (by have:=HB2.out;have:=hgrow1.size;show w.heap.size+2<_;simp at *;omega) (by simp)).trans hfro1))
     | go_in)
    go_roundw
    case rel=>exact⟨k+1,_,by omega,by go_num,xE.more H.out HA.out (ar _) (vK wr _) hown1 hgrow1 hown2 hgrow2 c d⟩
    case measure=>simp[intOf];omega
  ·obtain rfl:k=zs.length:=by omega
   have HH:=afU A H.out;go_wp2_with (go_at_call 222;refine HH.mono ?_;rintro e w2 ⟨rfl,G,L⟩;have M:w2.cell? ⟨w.heap.size+1+1,0,none⟩=some v:=G;have U:Hid (VB zs w _ w2):=L;clear L)
   go_ret
   rw[D];exact U.out
theorem Qq{a b ys:List aj}(h:iL a b=some ys):a.length+b.length<=34359738368/\(∀o,o∈a++b->okO o)/\ys=kT a b:=by
 unfold iL at h;obtain⟨_,g,h⟩:=zB.1 h;split at h
 case isFalse=>cases h
 rename_i hall;refine⟨o8 g,fun o c=>?_,(aR h).symm⟩;have:=List.all_eq_true.1 hall o c;unfold J3 at this;simp only[zI,decide_eq_true_eq]at this;exact⟨WalkArith.wf_i64 this.1,WalkArith.wf_i64 this.2⟩
theorem abg{a b:List aj}{w w':World}{S:Nat->Nat->Prop}{e:Ending}(h:VB (a++b) w e w'):∃v,e=.returned v/\Below w.heap.size w w'/\Yn w.heap.size w' S true [⟨false,.list (.base .origin)⟩] (kT a b) v:=by
 obtain⟨g,cap,cur,E,ys,rfl,hp,r,s,t,q,m,hcap,hmax,l⟩:=h;have n:g<w'.heap.size:=(aM.1 q).1;have o:=VN hp r;subst o;have cell:∀(i:Nat) (x:aj) (j:Nat) (d:D),(kT a b)[i]?=some x->((Ty.base .origin).cells x)[j]?=some d->(j=0/\d=.int .i64 x.cell)\/(j=1/\d=.int .i64 x.row):=fun i x j d k f=>by
  match j with
  | 0=>simp[Ty.cells,Base.cells]at f;exact .inl ⟨rfl,f.symm⟩
  | 1=>simp[Ty.cells,Base.cells]at f;exact .inr ⟨rfl,f.symm⟩
  | j+2=>simp[Ty.cells,Base.cells]at f
 refine⟨_,rfl,t,[_],rfl,fun i c=>i=0/\c=g,⟨?_,trivial⟩,fun i c hc=>by obtain⟨_,rfl⟩:=hc;exact⟨s,n⟩,fun i z c u y=>u.1.trans y.1.symm⟩
 ·exact Ow.list (.base .origin) (kT a b) g cap cur E (fun i j=>if j=0 then .int .i64 ((kT a b)[i]!).cell else .int .i64 ((kT a b)[i]!).row) (fun _ _ _=>False) _ q hcap hmax m ⟨rfl,rfl⟩ (fun i x j d k f=>by
   have e:i*(Ty.base .origin).size+j=i*2+j:=rfl;have p:(kT a b)[i]! = x:=by rw[List.getElem!_eq_getElem?_getD,k];rfl
   rw[e,p];rcases cell i x j d k f with ⟨rfl,rfl⟩ | ⟨rfl,rfl⟩
   ·exact (l i x k).1
   ·exact (l i x k).2) (fun i x j d k f=>by
   have p:(kT a b)[i]! = x:=by rw[List.getElem!_eq_getElem?_getD,k];rfl
   rw[p];rcases cell i x j d k f with ⟨rfl,rfl⟩ | ⟨rfl,rfl⟩
   ·exact Ow.int _ _ _
   ·exact Ow.int _ _ _) (fun _ _ _ h=>h.elim) fun _ _ _ _ _ h=>h.elim
theorem qG:Sound Tryz.prog JR:=by
 intro w S args x y h i a b;rcases args with _ | ⟨u,_ | ⟨c,_ | ⟨j,r⟩⟩⟩
 ·exact a.elim
 ·exact a.2.elim
 ·have h:iL x.1 x.2=some y:=h;obtain⟨d,f,rfl⟩:=Qq h;refine (Yq x.1 x.2 u c w (Jd (show Rep w S (.list (.base .origin) x.1) u from a.1.1) b) (Jd (show Rep w S (.list (.base .origin) x.2) c from a.2.1) b) d f).mono ?_;intro e w' g;exact abg g
 ·exact a.2.elim
end Go.Proofs.YtjbajpfonnnfoaaGreatDoor
/- The library's functions as contracts at this program; the integer of a range with a text. -/
namespace Go.Proofs.YtjbajpfonnnfoaaGreatDoor
open Go.Abs Go.Proofs Go.Shelf Go.RowKit Go.Lib Go.Sort
theorem UU (w : World) (h : amb w) : ∃ m, w.cell? ⟨(aeL.g 1), 0, none⟩ = some (.int .i64 m) := by have e : (Tryz.prog.globalNamed "internal/bytealg.MaxLen").getD 0 = aeL.g 1 := by { kernel_rfl }; have q := h.aj2; rw [e] at q; exact q
theorem NR:Sound Tryz.prog Zn:=VL l146 (by kernel_rfl) UU
