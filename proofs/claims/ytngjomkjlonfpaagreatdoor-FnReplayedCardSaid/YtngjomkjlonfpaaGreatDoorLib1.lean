import Derived.Test.YtngjomkjlonfpaaGreatDoorS3
import Derived.Test.YtngjomkjlonfpaaGreatDoorLink1
import Derived.Shelf.Strconv.Itoa3
import Derived.Shelf.Strings.OnBuilder
import Derived.Shelf.Strings.Prefix
import Derived.Shelf.Strings.Split
import Derived.Shelf.Small.Strs
import Derived.Shelf.Sort.Plain
import Derived.Shelf.Slices.In.SortNone2
import Derived.Test.YtngjomkjlonfpaaGreatDoorProg
import Derived.Shelf.Strconv.ErrVarAll
import Derived.KernelRfl
import Derived.Test.YtngjomkjlonfpaaGreatDoorMk
set_option linter.unusedSimpArgs false
set_option linter.unusedVariables false
/- Functions of the library, as the evaluator's contracts. -/
namespace Go.Abs
open Go.RowKit Go.Sort Go.Proofs Go.Shelf
theorem below_grow(w:World)(k:Nat)(os:Array Obj):Below w.heap.size w (grow (w.drewN k) os):=
 ⟨rfl,rfl,rfl,by simp[grow],fun i hi=>by
  show (w.heap++os)[i]?=_
  rw[Array.getElem?_append_left hi]⟩
theorem KL{B:Nat}{w':World}{S:Nat->Nat->Prop}(s:Str):Ec B w' S true [⟨false,.base .str⟩] s (.string ⟨s.toArray⟩):=
 ⟨[_],rfl,fun _ _=>False,⟨Ow.str (w:=w') (S:=fun _ _=>False) (deep:=true) ⟨s.toArray⟩ _,trivial⟩,fun _ _ h=>h.elim,fun _ _ _ h=>h.elim⟩
theorem agK{B:Nat}{w':World}{S:Nat->Nat->Prop}(n:Int):Ec B w' S true [⟨false,.base .int⟩] n (.int .i64 n):=
 ⟨[_],rfl,fun _ _=>False,⟨.int _ _ _,trivial⟩,fun _ _ h=>h.elim,fun _ _ _ h=>h.elim⟩
theorem QD{B:Nat}{w':World}{S:Nat->Nat->Prop}(b:Bool):Ec B w' S true [⟨false,.base .bool⟩] b (.bool b):=
 ⟨[_],rfl,fun _ _=>False,⟨.bool _ _,trivial⟩,fun _ _ h=>h.elim,fun _ _ _ h=>h.elim⟩
theorem UN{B:Nat}{w':World}{S:Nat->Nat->Prop}(n:Int)(b:Bool):Ec B w' S true [⟨false,.base .int⟩,⟨false,.base .bool⟩] (n,b) (.tuple #[.int .i64 n,.bool b]):=
 ⟨[.int .i64 n,.bool b],rfl,fun _ _=>False,⟨⟨.int _ _ _,trivial⟩,⟨.bool _ _,trivial⟩⟩,fun _ _ h=>h.elim,fun _ _ _ h=>h.elim⟩
theorem mX{w:World}{S:Nat->Nat->Prop}{s:Str}{u:Value}(h:Rep w S (.str s) u):u=.string ⟨s.toArray⟩:=by
 generalize a:D.str s=d at h;cases h<;>cases a
 rfl
theorem wU{w:World}{S:Nat->Nat->Prop}{k:IntKind}{n:Int}{u:Value}(h:Rep w S (.int k n) u):u=.int k n:=by
 generalize a:D.int k n=d at h;cases h<;>cases a
 rfl
theorem aec {P : Program} {ρ : Ren} (L : LaysM.n171 P ρ) (htab : ∀ w, amb w -> Go.Lib.TabIs P w "internal/strconv.uint64pow10" .u64 Go.Lib.pow10Tab) :
  Sound P { fid:=ρ.f 171,ps:=[⟨false,.base .int⟩],rs:=[⟨false,.base .str⟩],ex:=true,fn:=fun x=>EH x }:=by
 intro w S args x y h ha hr hS;rcases args with _ | ⟨u,_ | ⟨u2,r⟩⟩
 ·exact hr.elim
 ·have hu:=wU (show Rep w S (.int .i64 x) u from hr.1);subst hu;have h:EH x=some y:=h;unfold EH at h;split at h
  case isFalse=>cases h
  rename_i hx;cases h
  refine (Any.strconv_Itoa L x hx.1 hx.2 w (htab w ha)).mono ?_;rintro e w' ⟨rfl,k,os,rfl⟩;exact⟨_,rfl,below_grow w k os,KL _⟩
 ·exact hr.elim
theorem ZC{P:Program}{ρ:Ren}(L:Lays.n146 P ρ)(p:(P.info? (ρ.t 9)).map (fun i=>(i.zero,i.size,i.bytes))=some (some (.string ByteArray.empty),1,16))(hmax:∀w,amb w->∃m,w.cell? ⟨(ρ.g 1),0,none⟩=some (.int .i64 m)) :
  Sound P { fid:=ρ.f 146,ps:=[⟨false,.base .str⟩,⟨false,.base .str⟩],rs:=[⟨false,.list (.base .str)⟩],ex:=true,fn:=fun x=>lm x.1 x.2 }:=by
 intro w S args x y h E b K;rcases args with _ | ⟨u,_ | ⟨F,_ | ⟨M,r⟩⟩⟩
 ·exact b.elim
 ·exact b.2.elim
 ·have G:=mX (show Rep w S (.str x.1) u from b.1.1);have q:=mX (show Rep w S (.str x.2) F from b.2.1);subst G;subst q;have h:lm x.1 x.2=some y:=h;unfold lm at h;split at h
  case isFalse=>cases h
  rename_i v;obtain⟨m,H⟩:=hmax w E;have B:(⟨x.1.toArray⟩:ByteArray).size=x.1.length:=by show x.1.toArray.size=_;simp
  have I:(⟨x.2.toArray⟩:ByteArray).size=x.2.length:=by show x.2.toArray.size=_;simp
  have h1:1<=(⟨x.2.toArray⟩:ByteArray).size:=by rw[I];exact v.2
  have o:=Lib.splitB_all ⟨x.2.toArray⟩ h1 0 _ ⟨x.1.toArray⟩ rfl;have k:=Lib.countB_le ⟨x.2.toArray⟩ h1 (⟨x.1.toArray⟩:ByteArray).size ⟨x.1.toArray⟩ (az _);have a:=Lib.splitB_data ⟨x.2.toArray⟩ 0 (Lib.countB ⟨x.1.toArray⟩ ⟨x.2.toArray⟩) ⟨x.1.toArray⟩;have C:(Lib.splitB ⟨x.2.toArray⟩ 0 (Lib.countB ⟨x.1.toArray⟩ ⟨x.2.toArray⟩) ⟨x.1.toArray⟩).map (·.data.toList)=y:=by
   cases h
   rw[a];rfl
  refine (Any.strings_Split L p ⟨x.1.toArray⟩ ⟨x.2.toArray⟩ m w (by rw[B];exact v.1) H h1).mono ?_;generalize Lib.splitB ⟨x.2.toArray⟩ 0 (Lib.countB ⟨x.1.toArray⟩ ⟨x.2.toArray⟩) ⟨x.1.toArray⟩=bs at o C;generalize Lib.countB ⟨x.1.toArray⟩ ⟨x.2.toArray⟩=n at o k;subst C;rintro e w' ⟨rfl,rfl⟩;have z:(w.alloc (.cells (bs.map Value.string).toArray (ρ.t 9))).heap.size=w.heap.size+1:=Array.size_push _;refine⟨_,rfl,(Below.refl _ _).alloc (az _) _,[_],rfl,fun i c=>i=0/\c=w.heap.size,⟨?_,trivial⟩,fun i c J=>by rw[J.2,z];omega,fun i i' c h1 h2=>h1.1.trans h2.1.symm⟩
  ·have D:(bs.map (·.data.toList)).length=n+1:=by rw[List.length_map,o]
   have key:=Ow.list (w:=w.alloc (.cells (bs.map Value.string).toArray (ρ.t 9))) (S:=fun _ _=>False) (deep:=true) (.base .str) (bs.map (·.data.toList)) w.heap.size (n+1) (bs.map Value.string).toArray (ρ.t 9) (fun i _=>.string (bs[i]!)) (fun _ _ _=>False) (fun c=>0=0/\c=w.heap.size)
    (Array.getElem?_push_size) (by rw[D];exact az _) (by rw[B]at k;have:=v.1;unfold maxLen;omega) (by show (bs.map Value.string).toArray.size=(n+1)*1;simp[o]) ⟨rfl,rfl⟩
    (fun i s j d l a=>?_) (fun i s j d l a=>?_) (fun _ _ _ h=>h.elim) (fun _ _ _ _ _ h=>h.elim)
   ·rw[D]at key;exact key
   ·cases j with
    | succ j=>simp[Ty.cells,Base.cells]at a
    | zero=>
     have e:i*(Ty.base .str).size+0=i:=by show i*1+0=i;omega
     have hi:i<bs.length:=by
      have:=(zC.1 l).1;simpa using this
     rw[e];simp[hi]
   ·cases j with
    | succ j=>simp[Ty.cells,Base.cells]at a
    | zero=>
     simp only[Ty.cells,Base.cells,List.getElem?_cons_zero,zD]at a;subst a;have hi:i<bs.length:=by
      have:=(zC.1 l).1;simpa using this
     have A:bs[i].data.toList=s:=by
      rw[List.getElem?_map,zF hi]at l;simpa using l
     rw[getElem!_pos bs i hi,<- A];exact Ow.str _ _
 ·exact b.2.elim
theorem OE{P:Program}{ρ:Ren}(L:Lays.n99 P ρ) :
  Sound P { fid:=ρ.f 99,ps:=[⟨false,.base .str⟩,⟨false,.base .str⟩],rs:=[⟨false,.base .bool⟩],ex:=true,fn:=fun x=>jK x.1 x.2 }:=by
 intro w S args x y h g a i;rcases args with _ | ⟨u,_ | ⟨c,_ | ⟨j,r⟩⟩⟩
 ·exact a.elim
 ·exact a.2.elim
 ·have d:=mX (show Rep w S (.str x.1) u from a.1.1);have b:=mX (show Rep w S (.str x.2) c from a.2.1);subst d;subst b;have h:some (Go.Lib.hasPrefix x.1 x.2)=some y:=h;cases h
  refine (Any.strings_HasPrefix L ⟨x.1.toArray⟩ ⟨x.2.toArray⟩ w).mono ?_;rintro e w' ⟨rfl,rfl⟩;exact⟨_,rfl,Below.refl _ _,QD _⟩
 ·exact a.2.elim
theorem Om{P:Program}{ρ:Ren}(L:Lays.n137 P ρ) :
  Sound P { fid:=ρ.f 137,ps:=[⟨false,.base .str⟩,⟨false,.base .u8⟩],rs:=[⟨false,.base .int⟩],ex:=true,fn:=fun x=>eY x.1 x.2 }:=by
 intro w S args x y h g a i;rcases args with _ | ⟨u,_ | ⟨c,_ | ⟨j,r⟩⟩⟩
 ·exact a.elim
 ·exact a.2.elim
 ·have d:=mX (show Rep w S (.str x.1) u from a.1.1);have b:=wU (show Rep w S (.int .u8 x.2) c from a.2.1);subst d;subst b;have h:some (Go.Lib.indexByte x.1 (Int.toNat x.2).toUInt8)=some y:=h;cases h
  refine (Any.strings_IndexByte L ⟨x.1.toArray⟩ x.2 w).mono ?_;rintro e w' ⟨rfl,rfl⟩;exact⟨_,rfl,Below.refl _ _,agK _⟩
 ·exact a.2.elim
theorem Wl(xs:List Str):(xs.map fun s=>(⟨s.toArray⟩:ByteArray)).map (·.data.toList)=xs:=by
 induction xs with
 | nil=>rfl
 | cons x r ih=>simpa using ih
theorem aeb{P:Program}{ρ:Ren}(L:Lays.n156 P ρ)(X:Builder.Extra P ρ) :
  Sound P { fid:=ρ.f 156,ps:=[⟨false,.list (.base .str)⟩,⟨false,.base .str⟩],rs:=[⟨false,.base .str⟩],ex:=true,fn:=fun x=>EG x.1 x.2 }:=by
 intro w S args x y h I i p;rcases args with _ | ⟨u,_ | ⟨A,_ | ⟨J,r⟩⟩⟩
 ·exact i.elim
 ·exact i.2.elim
 ·have l:=mX (show Rep w S (.str x.2) A from i.2.1);subst l;have h1:Rep w S (.list (.base .str) x.1) u:=i.1.1;obtain⟨xs,sep⟩:=x;have h1:Rep w S (.list (.base .str) xs) u:=h1;have h:EG xs sep=some y:=h;unfold EG at h;obtain⟨_,B,h⟩:=zB.1 h;obtain⟨_,C,h⟩:=zB.1 h;cases h
  have K:=jE B;have M:=jE C;have none':∀(a:Option Addr) (c:Nat),xs=[]->Calls P (ρ.f 156) #[.slice a 0 c,.string ⟨sep.toArray⟩] w fun e w'=>∃v,e=.returned v/\Below w.heap.size w w'/\Ec w.heap.size w' S true [⟨false,.base .str⟩] (Go.Lib.join xs sep) v:=by
   rintro a c rfl;refine (Any.strings_Join_none L X a c ⟨sep.toArray⟩ w).mono ?_;rintro e w' ⟨rfl,rfl⟩;exact⟨_,rfl,Below.refl _ _,KL _⟩
  generalize g:D.list (.base .str) xs=d at h1;cases h1 with
  | int=>cases g
  | bool=>cases g
  | str=>cases g
  | nil=>cases g;exact none' _ _ rfl
  | emp=>cases g;exact none' _ _ rfl
  | list t xs' b off cap vs hcap E m=>
   cases g
   by_cases n:xs=[]
   ·subst n;exact none' _ _ rfl
   have hlen:(xs.map fun s=>(⟨s.toArray⟩:ByteArray)).length=xs.length:=by simp
   have hcell:∀(j:Nat) (z:ByteArray),(xs.map fun s=>(⟨s.toArray⟩:ByteArray))[j]?=some z->w.cell? ⟨b,off+j,none⟩=some (.string z)/\b<w.heap.size:=by
    intro j z k;rw[List.getElem?_map,Option.map_eq_some_iff]at k;obtain⟨s,o,rfl⟩:=k;have q:=E j s 0 (.str s) o rfl;have F:=mX (m j s 0 (.str s) o rfl);rw[F]at q;have e:off+(j*(Ty.base .str).size+0)=off+j:=by show off+(j*1+0)=_;omega
    rw[e]at q;exact⟨q.1,p _ _ q.2⟩
   have G:b<w.heap.size:=by
    obtain⟨s,r,rfl⟩:=List.exists_cons_of_ne_nil n;exact (hcell 0 _ rfl).2
   have:=Any.strings_Join L X b off cap (xs.map fun s=>(⟨s.toArray⟩:ByteArray)) ⟨sep.toArray⟩ w (fun j z k=>(hcell j z k).1) G (by rw[hlen];omega) (by rw[hlen];exact hcap)
    (by rw[Wl];show (Go.Lib.join xs sep).length<=_;omega)
   rw[hlen,Wl]at this;refine this.mono ?_;rintro e w' ⟨rfl,H⟩;exact⟨_,rfl,H,KL _⟩
 ·exact i.2.elim
theorem ao9{w:World}{S:Nat->Nat->Prop}{deep:Bool}{s:Str}{u:Value}{fp:Nat->Prop}(h:Ow w S deep (.str s) u fp):u=.string ⟨s.toArray⟩:=by
 generalize a:D.str s=d at h;cases h with
 | int=>cases a
 | bool=>cases a
 | str v=>cases a;rfl
 | nil=>cases a
 | ro d v fp _ b=>subst a;exact mX b
 | list=>cases a
set_option maxHeartbeats 1000000 in
theorem J7{P:Program}{ρ:Ren}(L:Lays.n192 P ρ)(w:World)(S:Nat->Nat->Prop)(deep:Bool)(u:Value)(xs ys:List Str)(fp:Nat->Prop)(h:jw xs=some ys)
  (O:OwT w S deep true (.base .str) xs u fp) (B:∀c,fp c->c<w.heap.size) (Y:∀b o,S b o->b<w.heap.size) :
  Calls P (ρ.f 192) #[u] w fun e w'=>e=.returned (.tuple #[])/\Off (fun c=>fp c/\∀o,¬S c o) w w'/\OwT w' S deep true (.base .str) ys u fp:=by
 unfold jw at h;obtain⟨_,Q,h⟩:=zB.1 h;have Z:=jE Q;have h:=(a6 h).symm;rcases O with ⟨rfl,R⟩ | ⟨b,cap,arr,E',vs,fps,rfl,C,hcap,hmax,r,g,K,T,hf,hdis,D⟩
 ·subst R;refine (Any.sort_Strings_none L none 0 w).mono ?_;rintro e w' ⟨rfl,rfl⟩;refine⟨rfl,⟨rfl,rfl,rfl,az _,fun c K _=>rfl⟩,.inl ⟨rfl,?_⟩⟩;rw[h];simp
 have t:∀o,¬S b o:=fun o v=>by cases (D o v).1
 have hblt:b<w.heap.size:=B b g;have M:arr.size=cap:=by rw[r];exact Nat.mul_one _
 have E:∀(i:Nat) (s:Str),xs[i]?=some s->arr[i]?=some (.string ⟨s.toArray⟩):=by
  intro i s a;have q:=K i s 0 (.str s) a rfl;have U:=T i s 0 (.str s) a rfl;have e:i*(Ty.base .str).size+0=i:=by show i*1+0=i;omega
  rw[e]at q;have V:vs i 0=.string ⟨s.toArray⟩:=ao9 U;rw[q,V]
 have W:Holds encStr w b 0 xs.toArray:=by
  intro j N;have F:j<xs.length:=by simpa using N
  have e:w.cell? ⟨b,0+j,none⟩=arr[j]?:=by simp[World.cell?,C]
  refine⟨?_,?_⟩
  ·rw[e,E j _ (zF F)];rw[getElem!_pos _ j N];simp[encStr]
  ·unfold World.frozen?;simp only[C];simp
 refine (Any.sort_Strings L b 0 cap xs w W hblt (by omega)).mono ?_;rintro e w' ⟨rfl,n,os,rfl⟩;have k:ys=xs.mergeSort fun x y=>decide (x<=y):=h
 have z:ys.length=xs.length:=by rw[k];exact List.length_mergeSort _
 have hheap:∀c,c<w.heap.size->c≠b->(grow (putRow encStr (Sort.ahead w n) b 0 (xs.mergeSort fun x y=>decide (x<=y)).toArray) os).heap[c]?=w.heap[c]?:=by
  intro c l G;show ((putRow encStr (Sort.ahead w n) b 0 _).heap++os)[c]?=_
  rw[Array.getElem?_append_left (by rw[size_putRow];exact l)];show (w.heap.modify b _)[c]?=_
  rw[Array.getElem?_modify,if_neg (Ne.symm G)]
 have hheapb:(grow (putRow encStr (Sort.ahead w n) b 0 (xs.mergeSort fun x y=>decide (x<=y)).toArray) os).heap[b]?=some (.cells (putCells encStr 0 (xs.mergeSort fun x y=>decide (x<=y)).toArray arr) E' (0,0)):=by
  show ((putRow encStr (Sort.ahead w n) b 0 _).heap++os)[b]?=_
  rw[Array.getElem?_append_left (by rw[size_putRow];exact hblt)];show (w.heap.modify b _)[b]?=_
  rw[Array.getElem?_modify,if_pos rfl,C];rfl
 have hsize:w.heap.size<=(grow (putRow encStr (Sort.ahead w n) b 0 (xs.mergeSort fun x y=>decide (x<=y)).toArray) os).heap.size:=by
  show _<=((putRow encStr (Sort.ahead w n) b 0 _).heap++os).size
  rw[Array.size_append,size_putRow];exact Nat.le_add_right _ _
 have m:(grow (putRow encStr (Sort.ahead w n) b 0 (xs.mergeSort fun x y=>decide (x<=y)).toArray) os).os=w.os:=rfl;have p:(grow (putRow encStr (Sort.ahead w n) b 0 (xs.mergeSort fun x y=>decide (x<=y)).toArray) os).tape=w.tape:=rfl;have hout:(grow (putRow encStr (Sort.ahead w n) b 0 (xs.mergeSort fun x y=>decide (x<=y)).toArray) os).output=w.output:=rfl;rw[<- k]at hheap hheapb hsize m p hout;have H:grow (putRow encStr (Sort.ahead w n) b 0 (List.mergeSort xs fun x y=>decide (x<=y)).toArray) os=grow (putRow encStr (Sort.ahead w n) b 0 ys.toArray) os:=by rw[k]
 rw[H];generalize grow (putRow encStr (Sort.ahead w n) b 0 ys.toArray) os=w' at hheap hheapb hsize m p hout;have hget:∀(i:Nat) (s:Str),ys[i]?=some s->(putCells encStr 0 ys.toArray arr)[i]?=some (.string ⟨s.toArray⟩):=by
  intro i s a;have hi:i<ys.length:=(zC.1 a).1;have I:i<arr.size:=by
   have X:i<ys.length:=hi;omega
  unfold putCells;rw[Array.getElem?_mapIdx,Array.getElem?_eq_getElem I,Option.map_some,if_pos ⟨Nat.zero_le _,by simpa using hi⟩,Nat.sub_zero];rw[getElem!_pos _ i (by simpa using hi)];have:ys[i]=s:=(zC.1 a).2;simp only[List.getElem_toArray,this];try rfl
 refine⟨rfl,⟨m,p,hout,hsize,fun c l J=>hheap c l fun e=>J ⟨e▸g,fun o v=>t o (e▸v)⟩⟩,.inr ⟨b,cap,putCells encStr 0 ys.toArray arr,E',fun i _=>.string ⟨(ys[i]!).toArray⟩,fun _ _ _=>False,?_,hheapb,?_,hmax,?_,g,?_,?_,fun _ _ _ h=>h.elim,fun _ _ _ _ _ h=>h.elim,fun o v=>absurd v (t o)⟩⟩
 ·rw[z]
 ·rw[z];exact hcap
 ·show (putCells encStr 0 _ arr).size=_
  unfold putCells;rw[Array.size_mapIdx];exact r
 ·intro i s j d a A;cases j with
  | succ j=>simp[Ty.cells,Base.cells]at A
  | zero=>
   have e:i*(Ty.base .str).size+0=i:=by show i*1+0=i;omega
   rw[e,hget i s a];have hi:=(zC.1 a);show _=some (Value.string ⟨(ys[i]!).toArray⟩)
   rw[getElem!_pos ys i hi.1,hi.2]
 ·intro i s j d a A;cases j with
  | succ j=>simp[Ty.cells,Base.cells]at A
  | zero=>
   simp only[Ty.cells,Base.cells,List.getElem?_cons_zero,zD]at A;subst A;have hi:=(zC.1 a);show Ow _ _ _ _ (Value.string ⟨(ys[i]!).toArray⟩) _
   rw[getElem!_pos ys i hi.1,hi.2];exact Ow.str ⟨List.toArray s⟩ _
theorem H8{P:Program}{ρ:Ren}(L:Lays.n192 P ρ):MI P { fid:=ρ.f 192,t:=.base .str,fn:=jw }:=
 fun w S deep u xs ys fp h _ b a c=>J7 L w S deep u xs ys fp h b a c
end Go.Abs
/- Functions of the library, by this program's numbers. -/
namespace Go.Proofs.YtngjomkjlonfpaaGreatDoor
open Go.Proofs Go.Shelf Go.RowKit Go.Lib Go.Sort
def apR:Go.Shelf.Ren:=⟨fun | 171=>231 | 243=>258 | 246=>287 | 283=>310 | 284=>311 | 285=>312 | 286=>313 | 129=>286 | 317=>326 | 318=>327 | 319=>328 | 320=>329 | 337=>338 | 338=>339 | n=>n,fun | 3=>3 | 9=>9 | 2=>2 | 4=>4 | 171=>264 | 0=>0 | 53=>242 | 37=>22 | 5=>5 | 173=>266 | 212=>283 | 51=>240 | 20=>20 | 213=>284 | 46=>132 | 232=>298 | 233=>299 | n=>n,fun | 17=>3 | 18=>6 | 19=>7 | n=>n⟩
theorem l171:LaysM.n171 Tryz.prog apR where
 mixed:=by kernel_rfl
 f129:=Tryz.func286.trans (congrArg some (by kernel_rfl))
 f171:=Tryz.func231.trans (congrArg some (by kernel_rfl))
 f243:=Tryz.func258.trans (congrArg some (by kernel_rfl))
 f246:=Tryz.func287.trans (congrArg some (by kernel_rfl))
 f283:=Tryz.func310.trans (congrArg some (by kernel_rfl))
 f284:=Tryz.func311.trans (congrArg some (by kernel_rfl))
 f285:=Tryz.func312.trans (congrArg some (by kernel_rfl))
 f286:=Tryz.func313.trans (congrArg some (by kernel_rfl))
 f317:=Tryz.func326.trans (congrArg some (by kernel_rfl))
 f318:=Tryz.func327.trans (congrArg some (by kernel_rfl))
 f319:=Tryz.func328.trans (congrArg some (by kernel_rfl))
 f320:=Tryz.func329.trans (congrArg some (by kernel_rfl))
 f337:=Tryz.func338.trans (congrArg some (by kernel_rfl))
 f338:=Tryz.func339.trans (congrArg some (by kernel_rfl))
 t0:=Tryz.underlying0
 a0:=Tryz.isAgg0
 z0:=Tryz.sizeOf0
 v0:=Tryz.zeroValue0
 t2:=Tryz.underlying2
 a2:=Tryz.isAgg2
 z2:=Tryz.sizeOf2
 v2:=Tryz.zeroValue2
 t3:=Tryz.underlying3
 a3:=Tryz.isAgg3
 z3:=Tryz.sizeOf3
 v3:=Tryz.zeroValue3
 t4:=Tryz.underlying4
 a4:=Tryz.isAgg4
 z4:=Tryz.sizeOf4
 v4:=Tryz.zeroValue4
 t5:=Tryz.underlying5
 a5:=Tryz.isAgg5
 z5:=Tryz.sizeOf5
 v5:=Tryz.zeroValue5
 t9:=Tryz.underlying9
 a9:=Tryz.isAgg9
 z9:=Tryz.sizeOf9
 v9:=Tryz.zeroValue9
 t20:=Tryz.underlying20
 a20:=Tryz.isAgg20
 z20:=Tryz.sizeOf20
 v20:=Tryz.zeroValue20
 t37:=Tryz.underlying22
 a37:=Tryz.isAgg22
 z37:=Tryz.sizeOf22
 v37:=Tryz.zeroValue22
 t46:=Tryz.underlying132
 a46:=Tryz.isAgg132
 z46:=Tryz.sizeOf132
 v46:=Tryz.zeroValue132
 t51:=Tryz.underlying240
 a51:=Tryz.isAgg240
 z51:=Tryz.sizeOf240
 v51:=Tryz.zeroValue240
 t53:=Tryz.underlying242
 a53:=Tryz.isAgg242
 z53:=Tryz.sizeOf242
 v53:=Tryz.zeroValue242
 t171:=Tryz.underlying264
 a171:=Tryz.isAgg264
 z171:=Tryz.sizeOf264
 v171:=Tryz.zeroValue264
 t173:=Tryz.underlying266
 a173:=Tryz.isAgg266
 z173:=Tryz.sizeOf266
 v173:=Tryz.zeroValue266
 t212:=Tryz.underlying283
 a212:=Tryz.isAgg283
 z212:=Tryz.sizeOf283
 v212:=Tryz.zeroValue283
 t213:=Tryz.underlying284
 a213:=Tryz.isAgg284
 z213:=Tryz.sizeOf284
 t232:=Tryz.underlying298
 a232:=Tryz.isAgg298
 z232:=Tryz.sizeOf298
 v232:=Tryz.zeroValue298
 t233:=Tryz.underlying299
 a233:=Tryz.isAgg299
 z233:=Tryz.sizeOf299
 v233:=Tryz.zeroValue299
 g17:=by kernel_rfl
 g18:=by kernel_rfl
 g19:=by kernel_rfl
 i0:=by kernel_rfl
 i2:=by kernel_rfl
 i3:=by kernel_rfl
 i4:=by kernel_rfl
 i5:=by kernel_rfl
 i9:=by kernel_rfl
 i20:=by kernel_rfl
 i37:=by kernel_rfl
 i46:=by kernel_rfl
 i51:=by kernel_rfl
 i53:=by kernel_rfl
 i171:=by kernel_rfl
 i173:=by kernel_rfl
 i212:=by kernel_rfl
 i232:=by kernel_rfl
 i233:=by kernel_rfl
 m17:=by kernel_rfl
 m18:=by kernel_rfl
 m19:=by kernel_rfl
def amv:Go.Shelf.Ren:=⟨fun | 172=>252 | 244=>272 | 245=>273 | 247=>299 | 279=>300 | 280=>301 | 281=>302 | 282=>303 | 287=>322 | 316=>323 | 171=>231 | 205=>324 | 321=>336 | 322=>337 | 243=>258 | 246=>287 | 283=>310 | 284=>311 | 285=>312 | 286=>313 | 129=>286 | 317=>326 | 318=>327 | 319=>328 | 320=>329 | 337=>338 | 338=>339 | n=>n,fun | 9=>9 | 3=>3 | 75=>221 | 76=>222 | 4=>4 | 5=>5 | 167=>252 | 37=>22 | 0=>0 | 85=>253 | 2=>2 | 168=>255 | 53=>242 | 175=>272 | 46=>132 | 210=>276 | 127=>268 | 145=>291 | 143=>289 | 21=>21 | 171=>264 | 173=>266 | 212=>283 | 51=>240 | 20=>20 | 213=>284 | 232=>298 | 233=>299 | 80=>181 | n=>n,fun | 15=>1 | 16=>2 | 17=>3 | 18=>6 | 19=>7 | n=>n⟩
theorem alA:LaysC.n172 Tryz.prog amv where
 mixed:=by kernel_rfl
 f129:=Tryz.func286.trans (congrArg some (by kernel_rfl))
 f171:=Tryz.func231.trans (congrArg some (by kernel_rfl))
 f172:=Tryz.func252.trans (congrArg some (by kernel_rfl))
 f205:=Tryz.func324.trans (congrArg some (by kernel_rfl))
 f243:=Tryz.func258.trans (congrArg some (by kernel_rfl))
 f244:=Tryz.func272.trans (congrArg some (by kernel_rfl))
 f245:=Tryz.func273.trans (congrArg some (by kernel_rfl))
 f246:=Tryz.func287.trans (congrArg some (by kernel_rfl))
 f247:=Tryz.func299.trans (congrArg some (by kernel_rfl))
 f279:=Tryz.func300.trans (congrArg some (by kernel_rfl))
 f280:=Tryz.func301.trans (congrArg some (by kernel_rfl))
 f281:=Tryz.func302.trans (congrArg some (by kernel_rfl))
 f282:=Tryz.func303.trans (congrArg some (by kernel_rfl))
 f283:=Tryz.func310.trans (congrArg some (by kernel_rfl))
 f284:=Tryz.func311.trans (congrArg some (by kernel_rfl))
 f285:=Tryz.func312.trans (congrArg some (by kernel_rfl))
 f286:=Tryz.func313.trans (congrArg some (by kernel_rfl))
 f287:=Tryz.func322.trans (congrArg some (by kernel_rfl))
 f316:=Tryz.func323.trans (congrArg some (by kernel_rfl))
 f317:=Tryz.func326.trans (congrArg some (by kernel_rfl))
 f318:=Tryz.func327.trans (congrArg some (by kernel_rfl))
 f319:=Tryz.func328.trans (congrArg some (by kernel_rfl))
 f320:=Tryz.func329.trans (congrArg some (by kernel_rfl))
 f321:=Tryz.func336.trans (congrArg some (by kernel_rfl))
 f322:=Tryz.func337.trans (congrArg some (by kernel_rfl))
 f337:=Tryz.func338.trans (congrArg some (by kernel_rfl))
 f338:=Tryz.func339.trans (congrArg some (by kernel_rfl))
 t0:=Tryz.underlying0
 a0:=Tryz.isAgg0
 z0:=Tryz.sizeOf0
 v0:=Tryz.zeroValue0
 t2:=Tryz.underlying2
 a2:=Tryz.isAgg2
 z2:=Tryz.sizeOf2
 v2:=Tryz.zeroValue2
 t3:=Tryz.underlying3
 a3:=Tryz.isAgg3
 z3:=Tryz.sizeOf3
 v3:=Tryz.zeroValue3
 t4:=Tryz.underlying4
 a4:=Tryz.isAgg4
 z4:=Tryz.sizeOf4
 v4:=Tryz.zeroValue4
 t5:=Tryz.underlying5
 a5:=Tryz.isAgg5
 z5:=Tryz.sizeOf5
 v5:=Tryz.zeroValue5
 t9:=Tryz.underlying9
 a9:=Tryz.isAgg9
 z9:=Tryz.sizeOf9
 v9:=Tryz.zeroValue9
 t20:=Tryz.underlying20
 a20:=Tryz.isAgg20
 z20:=Tryz.sizeOf20
 v20:=Tryz.zeroValue20
 t21:=Tryz.underlying21
 a21:=Tryz.isAgg21
 z21:=Tryz.sizeOf21
 v21:=Tryz.zeroValue21
 t37:=Tryz.underlying22
 a37:=Tryz.isAgg22
 z37:=Tryz.sizeOf22
 v37:=Tryz.zeroValue22
 t46:=Tryz.underlying132
 a46:=Tryz.isAgg132
 z46:=Tryz.sizeOf132
 v46:=Tryz.zeroValue132
 t51:=Tryz.underlying240
 a51:=Tryz.isAgg240
 z51:=Tryz.sizeOf240
 v51:=Tryz.zeroValue240
 t53:=Tryz.underlying242
 a53:=Tryz.isAgg242
 z53:=Tryz.sizeOf242
 v53:=Tryz.zeroValue242
 t75:=Tryz.underlying221
 a75:=Tryz.isAgg221
 z75:=Tryz.sizeOf221
 v75:=Tryz.zeroValue221
 t76:=Tryz.underlying222
 a76:=Tryz.isAgg222
 z76:=Tryz.sizeOf222
 v76:=Tryz.zeroValue222
 t85:=Tryz.underlying253
 a85:=Tryz.isAgg253
 z85:=Tryz.sizeOf253
 v85:=Tryz.zeroValue253
 t127:=Tryz.underlying268
 a127:=Tryz.isAgg268
 z127:=Tryz.sizeOf268
 v127:=Tryz.zeroValue268
 t143:=Tryz.underlying289
 a143:=Tryz.isAgg289
 z143:=Tryz.sizeOf289
 v143:=Tryz.zeroValue289
 t145:=Tryz.underlying291
 a145:=Tryz.isAgg291
 z145:=Tryz.sizeOf291
 v145:=Tryz.zeroValue291
 t167:=Tryz.underlying252
 a167:=Tryz.isAgg252
 z167:=Tryz.sizeOf252
 v167:=Tryz.zeroValue252
 t168:=Tryz.underlying255
 a168:=Tryz.isAgg255
 z168:=Tryz.sizeOf255
 v168:=Tryz.zeroValue255
 t171:=Tryz.underlying264
 a171:=Tryz.isAgg264
 z171:=Tryz.sizeOf264
 v171:=Tryz.zeroValue264
 t173:=Tryz.underlying266
 a173:=Tryz.isAgg266
 z173:=Tryz.sizeOf266
 v173:=Tryz.zeroValue266
 t175:=Tryz.underlying272
 a175:=Tryz.isAgg272
 z175:=Tryz.sizeOf272
 v175:=Tryz.zeroValue272
 t210:=Tryz.underlying276
 a210:=Tryz.isAgg276
 z210:=Tryz.sizeOf276
 v210:=Tryz.zeroValue276
 t212:=Tryz.underlying283
 a212:=Tryz.isAgg283
 z212:=Tryz.sizeOf283
 v212:=Tryz.zeroValue283
 t213:=Tryz.underlying284
 a213:=Tryz.isAgg284
 z213:=Tryz.sizeOf284
 t232:=Tryz.underlying298
 a232:=Tryz.isAgg298
 z232:=Tryz.sizeOf298
 v232:=Tryz.zeroValue298
 t233:=Tryz.underlying299
 a233:=Tryz.isAgg299
 z233:=Tryz.sizeOf299
 v233:=Tryz.zeroValue299
 g15:=by kernel_rfl
 g16:=by kernel_rfl
 g17:=by kernel_rfl
 g18:=by kernel_rfl
 g19:=by kernel_rfl
 t80:=Tryz.underlying181
 a80:=Tryz.isAgg181
 z80:=Tryz.sizeOf181
 v80:=Tryz.zeroValue181
 i0:=by kernel_rfl
 i2:=by kernel_rfl
 i3:=by kernel_rfl
 i4:=by kernel_rfl
 i5:=by kernel_rfl
 i9:=by kernel_rfl
 i20:=by kernel_rfl
 i21:=by kernel_rfl
 i37:=by kernel_rfl
 i46:=by kernel_rfl
 i51:=by kernel_rfl
 i53:=by kernel_rfl
 i75:=by kernel_rfl
 i76:=by kernel_rfl
 i80:=by kernel_rfl
 i85:=by kernel_rfl
 i127:=by kernel_rfl
 i143:=by kernel_rfl
 i145:=by kernel_rfl
 i167:=by kernel_rfl
 i168:=by kernel_rfl
 i171:=by kernel_rfl
 i173:=by kernel_rfl
 i175:=by kernel_rfl
 i210:=by kernel_rfl
 i212:=by kernel_rfl
 i232:=by kernel_rfl
 i233:=by kernel_rfl
 m15:=by kernel_rfl
 m16:=by kernel_rfl
 m17:=by kernel_rfl
 m18:=by kernel_rfl
 m19:=by kernel_rfl
 c0:=by kernel_rfl
 c2:=by kernel_rfl
 c3:=by kernel_rfl
 c4:=by kernel_rfl
 c5:=by kernel_rfl
 c9:=by kernel_rfl
 c20:=by kernel_rfl
 c21:=by kernel_rfl
 c37:=by kernel_rfl
 c46:=by kernel_rfl
 c51:=by kernel_rfl
 c53:=by kernel_rfl
 c75:=by kernel_rfl
 c76:=by kernel_rfl
 c80:=by kernel_rfl
 c85:=by kernel_rfl
 c127:=by kernel_rfl
 c143:=by kernel_rfl
 c145:=by kernel_rfl
 c167:=by kernel_rfl
 c168:=by kernel_rfl
 c171:=by kernel_rfl
 c173:=by kernel_rfl
 c175:=by kernel_rfl
 c210:=by kernel_rfl
 c212:=by kernel_rfl
 c213:=by kernel_rfl
 c232:=by kernel_rfl
 c233:=by kernel_rfl
def amw:Go.Shelf.Ren:=⟨fun | 156=>259 | 165=>288 | 166=>289 | 169=>290 | 240=>314 | 241=>315 | 276=>330 | 277=>331 | n=>n,fun | 31=>83 | 9=>9 | 3=>3 | 4=>4 | 0=>0 | 20=>20 | 72=>246 | 76=>222 | 70=>244 | 37=>22 | 75=>221 | 127=>268 | 164=>285 | 5=>5 | 80=>181 | n=>n,fun n=>n⟩
theorem l156:Lays.n156 Tryz.prog amw where
 mixed:=by kernel_rfl
 f156:=Tryz.func259.trans (congrArg some (by kernel_rfl))
 f165:=Tryz.func288.trans (congrArg some (by kernel_rfl))
 f166:=Tryz.func289.trans (congrArg some (by kernel_rfl))
 f169:=Tryz.func290.trans (congrArg some (by kernel_rfl))
 f240:=Tryz.func314.trans (congrArg some (by kernel_rfl))
 f241:=Tryz.func315.trans (congrArg some (by kernel_rfl))
 f276:=Tryz.func330.trans (congrArg some (by kernel_rfl))
 f277:=Tryz.func331.trans (congrArg some (by kernel_rfl))
 t0:=Tryz.underlying0
 a0:=Tryz.isAgg0
 z0:=Tryz.sizeOf0
 v0:=Tryz.zeroValue0
 t3:=Tryz.underlying3
 a3:=Tryz.isAgg3
 z3:=Tryz.sizeOf3
 v3:=Tryz.zeroValue3
 t4:=Tryz.underlying4
 a4:=Tryz.isAgg4
 z4:=Tryz.sizeOf4
 v4:=Tryz.zeroValue4
 t9:=Tryz.underlying9
 a9:=Tryz.isAgg9
 z9:=Tryz.sizeOf9
 v9:=Tryz.zeroValue9
 t20:=Tryz.underlying20
 a20:=Tryz.isAgg20
 z20:=Tryz.sizeOf20
 v20:=Tryz.zeroValue20
 t31:=Tryz.underlying83
 a31:=Tryz.isAgg83
 z31:=Tryz.sizeOf83
 v31:=Tryz.zeroValue83
 t37:=Tryz.underlying22
 a37:=Tryz.isAgg22
 z37:=Tryz.sizeOf22
 v37:=Tryz.zeroValue22
 t70:=Tryz.underlying244
 a70:=Tryz.isAgg244
 z70:=Tryz.sizeOf244
 v70:=Tryz.zeroValue244
 t72:=Tryz.underlying246
 a72:=Tryz.isAgg246
 z72:=Tryz.sizeOf246
 v72:=Tryz.zeroValue246
 t75:=Tryz.underlying221
 a75:=Tryz.isAgg221
 z75:=Tryz.sizeOf221
 v75:=Tryz.zeroValue221
 t76:=Tryz.underlying222
 a76:=Tryz.isAgg222
 z76:=Tryz.sizeOf222
 v76:=Tryz.zeroValue222
 t127:=Tryz.underlying268
 a127:=Tryz.isAgg268
 z127:=Tryz.sizeOf268
 v127:=Tryz.zeroValue268
 t164:=Tryz.underlying285
 a164:=Tryz.isAgg285
 z164:=Tryz.sizeOf285
 v164:=Tryz.zeroValue285
theorem x156:Builder.Extra Tryz.prog amw where
 sizeBuilder:=by kernel_rfl
 liesBuilder:=by kernel_rfl
 t5:=Tryz.underlying5
 a5:=Tryz.isAgg5
 z5:=Tryz.sizeOf5
 v5:=Tryz.zeroValue5
 infoByte:=by kernel_rfl
 cellsByte:=by kernel_rfl
 sizeByte:=by kernel_rfl
 neB5:=by decide
def apS:Go.Shelf.Ren:=⟨fun | 137=>223 | 217=>253 | 266=>274 | n=>n,fun | 9=>9 | 5=>5 | 3=>3 | n=>n,fun n=>n⟩
theorem l137:Lays.n137 Tryz.prog apS where
 mixed:=by kernel_rfl
 f137:=Tryz.func223.trans (congrArg some (by kernel_rfl))
 f217:=Tryz.func253.trans (congrArg some (by kernel_rfl))
 f266:=Tryz.func274.trans (congrArg some (by kernel_rfl))
 t3:=Tryz.underlying3
 a3:=Tryz.isAgg3
 z3:=Tryz.sizeOf3
 v3:=Tryz.zeroValue3
 t5:=Tryz.underlying5
 a5:=Tryz.isAgg5
 z5:=Tryz.sizeOf5
 v5:=Tryz.zeroValue5
 t9:=Tryz.underlying9
 a9:=Tryz.isAgg9
 z9:=Tryz.sizeOf9
 v9:=Tryz.zeroValue9
def l99r:Go.Shelf.Ren:=⟨fun | 99=>225 | 206=>254 | n=>n,fun | 9=>9 | 4=>4 | 3=>3 | n=>n,fun n=>n⟩
theorem l99:Lays.n99 Tryz.prog l99r where
 mixed:=by kernel_rfl
 f99:=Tryz.func225.trans (congrArg some (by kernel_rfl))
 f206:=Tryz.func254.trans (congrArg some (by kernel_rfl))
 t3:=Tryz.underlying3
 a3:=Tryz.isAgg3
 z3:=Tryz.sizeOf3
 v3:=Tryz.zeroValue3
 t4:=Tryz.underlying4
 a4:=Tryz.isAgg4
 z4:=Tryz.sizeOf4
 v4:=Tryz.zeroValue4
 t9:=Tryz.underlying9
 a9:=Tryz.isAgg9
 z9:=Tryz.sizeOf9
 v9:=Tryz.zeroValue9
def apQ:Go.Shelf.Ren:=⟨fun | 192=>180 | 190=>230 | 125=>257 | 258=>256 | 128=>285 | 129=>286 | 302=>276 | 303=>277 | 304=>278 | 305=>279 | 306=>280 | 307=>281 | 308=>282 | 309=>283 | 310=>284 | 333=>304 | 329=>305 | 330=>306 | 334=>307 | 335=>308 | 336=>309 | 344=>325 | n=>n,fun | 31=>83 | 0=>0 | 9=>9 | 3=>3 | 46=>132 | 51=>240 | 53=>242 | 4=>4 | 183=>234 | 182=>233 | 131=>206 | 5=>5 | 218=>258 | 222=>262 | 228=>278 | 229=>279 | n=>n,fun n=>n⟩
theorem l192:Lays.n192 Tryz.prog apQ where
 mixed:=by kernel_rfl
 f125:=Tryz.func257.trans (congrArg some (by kernel_rfl))
 f128:=Tryz.func285.trans (congrArg some (by kernel_rfl))
 f129:=Tryz.func286.trans (congrArg some (by kernel_rfl))
 f190:=Tryz.func230.trans (congrArg some (by kernel_rfl))
 f192:=Tryz.func180.trans (congrArg some (by kernel_rfl))
 f258:=Tryz.func256.trans (congrArg some (by kernel_rfl))
 f302:=Tryz.func276.trans (congrArg some (by kernel_rfl))
 f303:=Tryz.func277.trans (congrArg some (by kernel_rfl))
 f304:=Tryz.func278.trans (congrArg some (by kernel_rfl))
 f305:=Tryz.func279.trans (congrArg some (by kernel_rfl))
 f306:=Tryz.func280.trans (congrArg some (by kernel_rfl))
 f307:=Tryz.func281.trans (congrArg some (by kernel_rfl))
 f308:=Tryz.func282.trans (congrArg some (by kernel_rfl))
 f309:=Tryz.func283.trans (congrArg some (by kernel_rfl))
 f310:=Tryz.func284.trans (congrArg some (by kernel_rfl))
 f329:=Tryz.func305.trans (congrArg some (by kernel_rfl))
 f330:=Tryz.func306.trans (congrArg some (by kernel_rfl))
 f333:=Tryz.func304.trans (congrArg some (by kernel_rfl))
 f334:=Tryz.func307.trans (congrArg some (by kernel_rfl))
 f335:=Tryz.func308.trans (congrArg some (by kernel_rfl))
 f336:=Tryz.func309.trans (congrArg some (by kernel_rfl))
 f344:=Tryz.func325.trans (congrArg some (by kernel_rfl))
 t0:=Tryz.underlying0
 a0:=Tryz.isAgg0
 z0:=Tryz.sizeOf0
 v0:=Tryz.zeroValue0
 t3:=Tryz.underlying3
 a3:=Tryz.isAgg3
 z3:=Tryz.sizeOf3
 v3:=Tryz.zeroValue3
 t4:=Tryz.underlying4
 a4:=Tryz.isAgg4
 z4:=Tryz.sizeOf4
 v4:=Tryz.zeroValue4
 t5:=Tryz.underlying5
 a5:=Tryz.isAgg5
 z5:=Tryz.sizeOf5
 v5:=Tryz.zeroValue5
 t9:=Tryz.underlying9
 a9:=Tryz.isAgg9
 z9:=Tryz.sizeOf9
 v9:=Tryz.zeroValue9
 t31:=Tryz.underlying83
 a31:=Tryz.isAgg83
 z31:=Tryz.sizeOf83
 v31:=Tryz.zeroValue83
 t46:=Tryz.underlying132
 a46:=Tryz.isAgg132
 z46:=Tryz.sizeOf132
 v46:=Tryz.zeroValue132
 t51:=Tryz.underlying240
 a51:=Tryz.isAgg240
 z51:=Tryz.sizeOf240
 v51:=Tryz.zeroValue240
 t53:=Tryz.underlying242
 a53:=Tryz.isAgg242
 z53:=Tryz.sizeOf242
 v53:=Tryz.zeroValue242
 t131:=Tryz.underlying206
 a131:=Tryz.isAgg206
 z131:=Tryz.sizeOf206
 v131:=Tryz.zeroValue206
 t182:=Tryz.underlying233
 a182:=Tryz.isAgg233
 z182:=Tryz.sizeOf233
 v182:=Tryz.zeroValue233
 t183:=Tryz.underlying234
 a183:=Tryz.isAgg234
 z183:=Tryz.sizeOf234
 v183:=Tryz.zeroValue234
 t218:=Tryz.underlying258
 a218:=Tryz.isAgg258
 z218:=Tryz.sizeOf258
 v218:=Tryz.zeroValue258
 t222:=Tryz.underlying262
 a222:=Tryz.isAgg262
 z222:=Tryz.sizeOf262
 v222:=Tryz.zeroValue262
 t228:=Tryz.underlying278
 a228:=Tryz.isAgg278
 z228:=Tryz.sizeOf278
 v228:=Tryz.zeroValue278
 t229:=Tryz.underlying279
 a229:=Tryz.isAgg279
 z229:=Tryz.sizeOf279
 v229:=Tryz.zeroValue279
def ajl:Go.Shelf.Ren:=⟨fun | 146=>233 | 221=>260 | 268=>291 | 138=>292 | 143=>293 | 195=>316 | 197=>317 | 218=>318 | 219=>319 | 260=>332 | 217=>253 | 225=>333 | 224=>334 | 267=>335 | 266=>274 | 314=>340 | n=>n,fun | 9=>9 | 31=>83 | 3=>3 | 4=>4 | 0=>0 | 105=>269 | 21=>21 | 5=>5 | 46=>132 | 119=>292 | 139=>295 | 138=>294 | 146=>296 | 51=>240 | n=>n,fun | 1=>0 | 3=>4 | 4=>5 | n=>n⟩
theorem l146:Lays.n146 Tryz.prog ajl where
 mixed:=by kernel_rfl
 f138:=Tryz.func292.trans (congrArg some (by kernel_rfl))
 f143:=Tryz.func293.trans (congrArg some (by kernel_rfl))
 f146:=Tryz.func233.trans (congrArg some (by kernel_rfl))
 f195:=Tryz.func316.trans (congrArg some (by kernel_rfl))
 f197:=Tryz.func317.trans (congrArg some (by kernel_rfl))
 f217:=Tryz.func253.trans (congrArg some (by kernel_rfl))
 f218:=Tryz.func318.trans (congrArg some (by kernel_rfl))
 f219:=Tryz.func319.trans (congrArg some (by kernel_rfl))
 f221:=Tryz.func260.trans (congrArg some (by kernel_rfl))
 f224:=Tryz.func334.trans (congrArg some (by kernel_rfl))
 f225:=Tryz.func333.trans (congrArg some (by kernel_rfl))
 f260:=Tryz.func332.trans (congrArg some (by kernel_rfl))
 f266:=Tryz.func274.trans (congrArg some (by kernel_rfl))
 f267:=Tryz.func335.trans (congrArg some (by kernel_rfl))
 f268:=Tryz.func291.trans (congrArg some (by kernel_rfl))
 f314:=Tryz.func340.trans (congrArg some (by kernel_rfl))
 t0:=Tryz.underlying0
 a0:=Tryz.isAgg0
 z0:=Tryz.sizeOf0
 v0:=Tryz.zeroValue0
 t3:=Tryz.underlying3
 a3:=Tryz.isAgg3
 z3:=Tryz.sizeOf3
 v3:=Tryz.zeroValue3
 t4:=Tryz.underlying4
 a4:=Tryz.isAgg4
 z4:=Tryz.sizeOf4
 v4:=Tryz.zeroValue4
 t5:=Tryz.underlying5
 a5:=Tryz.isAgg5
 z5:=Tryz.sizeOf5
 v5:=Tryz.zeroValue5
 t9:=Tryz.underlying9
 a9:=Tryz.isAgg9
 z9:=Tryz.sizeOf9
 v9:=Tryz.zeroValue9
 t21:=Tryz.underlying21
 a21:=Tryz.isAgg21
 z21:=Tryz.sizeOf21
 v21:=Tryz.zeroValue21
 t31:=Tryz.underlying83
 a31:=Tryz.isAgg83
 z31:=Tryz.sizeOf83
 v31:=Tryz.zeroValue83
 t46:=Tryz.underlying132
 a46:=Tryz.isAgg132
 z46:=Tryz.sizeOf132
 v46:=Tryz.zeroValue132
 t51:=Tryz.underlying240
 a51:=Tryz.isAgg240
 z51:=Tryz.sizeOf240
 v51:=Tryz.zeroValue240
 t105:=Tryz.underlying269
 a105:=Tryz.isAgg269
 z105:=Tryz.sizeOf269
 v105:=Tryz.zeroValue269
 t119:=Tryz.underlying292
 a119:=Tryz.isAgg292
 z119:=Tryz.sizeOf292
 t138:=Tryz.underlying294
 a138:=Tryz.isAgg294
 z138:=Tryz.sizeOf294
 v138:=Tryz.zeroValue294
 t139:=Tryz.underlying295
 a139:=Tryz.isAgg295
 z139:=Tryz.sizeOf295
 v139:=Tryz.zeroValue295
 t146:=Tryz.underlying296
 a146:=Tryz.isAgg296
 z146:=Tryz.sizeOf296
 v146:=Tryz.zeroValue296
 g1:=by kernel_rfl
 g3:=by kernel_rfl
 g4:=by kernel_rfl
end Go.Proofs.YtngjomkjlonfpaaGreatDoor
/- The library's functions as contracts at this program; the integer of a range with a text. -/
namespace Go.Proofs.YtngjomkjlonfpaaGreatDoor
open Go.Abs Go.Proofs Go.Shelf Go.RowKit Go.Lib Go.Sort
theorem U0:Sound Tryz.prog ag7:=aec l171 (fun w h=>h.tab)
theorem GH:Sound Tryz.prog Ru:=OE l99
theorem Gz:Sound Tryz.prog Rt:=Om l137
theorem UZ:Sound Tryz.prog ag6:=aeb l156 x156
theorem Yy (w : World) (h : amb w) : ∃ m, w.cell? ⟨(ajl.g 1), 0, none⟩ = some (.int .i64 m) := by have e : (Tryz.prog.globalNamed "internal/bytealg.MaxLen").getD 0 = ajl.g 1 := by { kernel_rfl }; have q := h.aph; rw [e] at q; exact q
theorem Rq:Sound Tryz.prog ad3:=ZC l146 (by kernel_rfl) Yy
theorem yJ:callable Tryz.prog qK.fid=true:=by kernel_rfl
theorem BB:MI Tryz.prog qK:=H8 l192
theorem acd(w:World)(e:TypeId)(t:ByteArray):Below w.heap.size w (Go.Lib.bytesWorld w e t):=by
 refine⟨rfl,rfl,rfl,?_,fun k a=>?_⟩
 ·simp[Go.Lib.bytesWorld,World.freeze,World.alloc]
 ·unfold Go.Lib.bytesWorld World.freeze;show ((w.drew.alloc _).heap.modify w.heap.size _)[k]?=_
  rw[Array.getElem?_modify,if_neg (by omega)];exact Below.heap_alloc w.drew _ _ a
def Zv(s:Str)(e:Ending):Prop:=match Go.Lib.atoiAll s with
 | .ok v=>e=.returned (.tuple #[.int .i64 v,.nilIface])
 | _=>∃n t p,e=.returned (.tuple #[.int .i64 n,.iface t p])
theorem aku(s:Str)(i:s.length<=34359738368)(w:World)(d:amb w) :
  Calls Tryz.prog (amv.f 172) #[.string ⟨s.toArray⟩] w fun e w'=>Zv s e/\Below w.heap.size w w':=by
 have a:(⟨s.toArray⟩:ByteArray).size=s.length:=by show s.toArray.size=_;simp
 have g:(⟨s.toArray⟩:ByteArray).data.toList=s:=rfl;unfold Zv;cases h:Go.Lib.atoiAll s with
 | ok v=>
  refine (Any.strconv_Atoi_ok alA ⟨s.toArray⟩ (by rw[a];omega) v h w).mono ?_;rintro e w' ⟨rfl,b | ⟨t,b⟩⟩
  ·subst b;exact⟨rfl,Below.refl _ _⟩
  ·subst b;exact⟨rfl,acd _ _ _⟩
 | range=>
  obtain⟨tp,p,hv⟩:=d.2.2.2;refine (Any.strconv_Atoi_range_var alA ⟨s.toArray⟩ (by rw[a];omega) h tp p w hv).mono ?_;rintro e w' ⟨N,rfl,_,_,c⟩;exact⟨⟨_,_,_,rfl⟩,c⟩
 | _=>
  obtain⟨tp,p,hv⟩:=d.2.2.1;refine (Any.strconv_Atoi_syntax_var alA ⟨s.toArray⟩ (by rw[a];omega) h tp p w hv).mono ?_;rintro e w' ⟨N,rfl,_,_,c⟩;exact⟨⟨_,_,_,rfl⟩,c⟩
theorem TV{s:Str}{v:Int}(h:Go.Lib.atoiAll s=.ok v):-9223372036854775808<=v/\v<=9223372036854775807:=by
 unfold Go.Lib.atoiAll at h;split at h
 ·cases h
 ·simp only at h;split at h
  ·cases h
  ·cases h
  ·split at h
   ·cases h
   ·split at h
    ·cases h
    ·rename_i u _ h1 h2;cases h
     split<;>omega
def Ud(s:Str)(lo hi:Int)(e:Ending):Prop:=∃r,rV s lo hi=some r/\e=.returned (.tuple #[.int .i64 r.1,.bool r.2])
theorem agW{s:Str}{lo hi v:Int}(b:s.length<=34359738368)(h:Go.Lib.atoiAll s=.ok v)(h1:lo<=v)(h2:v<=hi)(c:Go.Lib.itoa v=s):Ud s lo hi (.returned (.tuple #[.int .i64 v,.bool true])):=by
 refine⟨(v,true),?_,rfl⟩;have a:gd s.length=some ():=by unfold gd;simp[b]
 unfold rV;rw[a,h];simp only[zA];rw[if_neg];rintro (q | q | q)
 ·omega
 ·omega
 ·exact q c
theorem CW{s:Str}{lo hi:Int}(b:s.length<=34359738368)(h:∀v,Go.Lib.atoiAll s=.ok v->v<lo\/hi<v\/Go.Lib.itoa v≠s):Ud s lo hi (.returned (.tuple #[.int .i64 0,.bool false])):=by
 refine⟨(0,false),?_,rfl⟩;have a:gd s.length=some ():=by unfold gd;simp[b]
 unfold rV;rw[a];simp only[zA];cases hv:Go.Lib.atoiAll s with
 | ok v=>simp only;rw[if_pos (h v hv)]
 | range=>rfl
 | _=>rfl
set_option maxHeartbeats 4000000 in
set_option maxRecDepth 100000 in
theorem adL(s:Str)(lo hi:Int)(f:s.length<=34359738368)(w:World)(j:amb w) :
  Calls Tryz.prog 222 #[.string ⟨s.toArray⟩,.int .i64 lo,.int .i64 hi] w fun e w'=>Ud s lo hi e/\Below w.heap.size w w':=by
 have mixed:=alA.mixed;have b:=aku s f w j;have m:gd s.length=some ():=by unfold gd;simp[f]
 unfold Zv at b;cases h:Go.Lib.atoiAll s with
 | ok v=>
  rw[h]at b;simp only at b;go_enter Tryz.func222,Tryz.ntmps222
  go_wp2_with (first | (go_at_call 252;refine b.mono ?_;rintro e g ⟨rfl,d⟩;have l:=amb.keep j d.size fun k o=>d.block k (aE o j.size);have HB:Hid (Below w.heap.size w g):=d;clear d) | (go_at_call 231;refine (Any.strconv_Itoa l171 v (TV h).1 (TV h).2 _ l.tab).mono ?_;rintro e r ⟨rfl,k,os,rfl⟩))
  all_goals go_ret2
  ·rename_i k os c;refine⟨CW f fun v' a=>?_,HB.out.trans ((below_grow g k os).mono HB.out.size)⟩;have e:v'=v:=by rw[h]at a;cases a;rfl
   subst e;rcases c with c | c
   ·exact c.elim .inl fun q=>.inr (.inl q)
   ·exact .inr (.inr (by simpa using c))
  ·rename_i k os c;exact⟨agW f h c.1.1 c.1.2 (by simpa using c.2),HB.out.trans ((below_grow g k os).mono HB.out.size)⟩
  ·rename_i i;refine⟨CW f fun v' a=>?_,HB.out⟩;rw[h]at a;cases a;exact .inr (.inl i)
  ·rename_i i;refine⟨CW f fun v' a=>?_,HB.out⟩;rw[h]at a;cases a;exact .inl i
 | range=>
  rw[h]at b;simp only at b;go_enter Tryz.func222,Tryz.ntmps222
  go_wp2_with (go_at_call 252;refine b.mono ?_;rintro e g ⟨⟨n,t,p,rfl⟩,d⟩;have HB:Hid (Below w.heap.size w g):=d;clear d)
  all_goals go_ret2
  exact⟨CW f fun v' a=>(by rw[h]at a;cases a),HB.out⟩
 | _=>
  rw[h]at b;simp only at b;go_enter Tryz.func222,Tryz.ntmps222
  go_wp2_with (go_at_call 252;refine b.mono ?_;rintro e g ⟨⟨n,t,p,rfl⟩,d⟩;have HB:Hid (Below w.heap.size w g):=d;clear d)
  all_goals go_ret2
  exact⟨CW f fun v' a=>(by rw[h]at a;cases a),HB.out⟩
theorem YQ:Sound Tryz.prog ajD:=by
 intro w S args x y h d a m;rcases args with _ | ⟨u,_ | ⟨f,_ | ⟨i,_ | ⟨n,r⟩⟩⟩⟩
 ·exact a.elim
 ·exact a.2.elim
 ·exact a.2.2.elim
 ·have j:=mX (show Rep w S (.str x.1) u from a.1.1);have b:=wU (show Rep w S (.int .i64 x.2.1) f from a.2.1.1);have c:=wU (show Rep w S (.int .i64 x.2.2) i from a.2.2.1);subst j;subst b;subst c;have h:rV x.1 x.2.1 x.2.2=some y:=h;have k:List.length x.1<=34359738368:=by
   unfold rV at h;obtain⟨_,g,_⟩:=zB.1 h;exact jE g
  refine (adL x.1 x.2.1 x.2.2 k w d).mono ?_;rintro e w' ⟨⟨r,a,rfl⟩,l⟩;rw[h]at a;cases a
  exact⟨_,rfl,l,UN _ _⟩
 ·exact a.2.2.elim
end Go.Proofs.YtngjomkjlonfpaaGreatDoor
