import Derived.Test.YtngjomkjlonfpaaGreatProg
import Derived.Shelf.GgSortMore.Stable
import Derived.KernelRfl
import Derived.Sort.LotA
import Derived.Shelf.SlSortFuncK.SWK
import Derived.Shelf.GgSortMore.Bridge
set_option linter.unusedSimpArgs false
set_option linter.unusedVariables false
/- The library's stable sort, by this program's numbers. -/
namespace Go.Proofs.YtngjomkjlonfpaaGreat
open Go.Proofs Go.Shelf Go.RowKit Go.Lib Go.Sort
def sl8r:Go.Shelf.Ren:=⟨fun | 8=>26 | 13=>51 | 14=>52 | 16=>54 | 15=>53 | 29=>85 | 30=>86 | 42=>109 | 49=>129 | n=>n,fun | 20=>20 | 26=>63 | 36=>86 | 0=>0 | 38=>88 | 42=>92 | 3=>3 | 4=>4 | 47=>141 | 17=>17 | 33=>83 | 34=>84 | 89=>251 | 12=>12 | 56=>243 | 82=>244 | 5=>5 | 83=>245 | 84=>246 | 85=>247 | 86=>248 | 87=>249 | n=>n,fun n=>n⟩
theorem sl8:LaysGt.n8 Tryz.prog sl8r where
 mixed:=by kernel_rfl
 f8:=Tryz.func26.trans (congrArg some (by kernel_rfl))
 f13:=Tryz.func51.trans (congrArg some (by kernel_rfl))
 f14:=Tryz.func52.trans (congrArg some (by kernel_rfl))
 f15:=Tryz.func53.trans (congrArg some (by kernel_rfl))
 f16:=Tryz.func54.trans (congrArg some (by kernel_rfl))
 f29:=Tryz.func85.trans (congrArg some (by kernel_rfl))
 f30:=Tryz.func86.trans (congrArg some (by kernel_rfl))
 f42:=Tryz.func109.trans (congrArg some (by kernel_rfl))
 f49:=Tryz.func129.trans (congrArg some (by kernel_rfl))
 t0:=Tryz.underlying0
 a0:=Tryz.isAgg0
 z0:=Tryz.sizeOf0
 v0:=Tryz.zeroValue0
 i0:=by kernel_rfl
 t3:=Tryz.underlying3
 a3:=Tryz.isAgg3
 z3:=Tryz.sizeOf3
 v3:=Tryz.zeroValue3
 i3:=by kernel_rfl
 t4:=Tryz.underlying4
 a4:=Tryz.isAgg4
 z4:=Tryz.sizeOf4
 v4:=Tryz.zeroValue4
 i4:=by kernel_rfl
 t5:=Tryz.underlying5
 a5:=Tryz.isAgg5
 z5:=Tryz.sizeOf5
 v5:=Tryz.zeroValue5
 i5:=by kernel_rfl
 t12:=Tryz.underlying12
 a12:=Tryz.isAgg12
 z12:=Tryz.sizeOf12
 v12:=Tryz.zeroValue12
 i12:=by kernel_rfl
 t17:=Tryz.underlying17
 a17:=Tryz.isAgg17
 z17:=Tryz.sizeOf17
 v17:=Tryz.zeroValue17
 i17:=by kernel_rfl
 t20:=Tryz.underlying20
 a20:=Tryz.isAgg20
 z20:=Tryz.sizeOf20
 v20:=Tryz.zeroValue20
 i20:=by kernel_rfl
 t26:=Tryz.underlying63
 a26:=Tryz.isAgg63
 z26:=Tryz.sizeOf63
 v26:=Tryz.zeroValue63
 i26:=by kernel_rfl
 t33:=Tryz.underlying83
 a33:=Tryz.isAgg83
 z33:=Tryz.sizeOf83
 v33:=Tryz.zeroValue83
 i33:=by kernel_rfl
 t34:=Tryz.underlying84
 a34:=Tryz.isAgg84
 z34:=Tryz.sizeOf84
 v34:=Tryz.zeroValue84
 i34:=by kernel_rfl
 t36:=Tryz.underlying86
 a36:=Tryz.isAgg86
 z36:=Tryz.sizeOf86
 v36:=Tryz.zeroValue86
 i36:=by kernel_rfl
 t38:=Tryz.underlying88
 a38:=Tryz.isAgg88
 z38:=Tryz.sizeOf88
 v38:=Tryz.zeroValue88
 i38:=by kernel_rfl
 t42:=Tryz.underlying92
 a42:=Tryz.isAgg92
 z42:=Tryz.sizeOf92
 v42:=Tryz.zeroValue92
 i42:=by kernel_rfl
 t47:=Tryz.underlying141
 a47:=Tryz.isAgg141
 z47:=Tryz.sizeOf141
 v47:=Tryz.zeroValue141
 i47:=by kernel_rfl
 t56:=Tryz.underlying243
 a56:=Tryz.isAgg243
 z56:=Tryz.sizeOf243
 v56:=Tryz.zeroValue243
 i56:=by kernel_rfl
 t82:=Tryz.underlying244
 a82:=Tryz.isAgg244
 z82:=Tryz.sizeOf244
 v82:=Tryz.zeroValue244
 i82:=by kernel_rfl
 t83:=Tryz.underlying245
 a83:=Tryz.isAgg245
 z83:=Tryz.sizeOf245
 v83:=Tryz.zeroValue245
 i83:=by kernel_rfl
 t84:=Tryz.underlying246
 a84:=Tryz.isAgg246
 z84:=Tryz.sizeOf246
 v84:=Tryz.zeroValue246
 i84:=by kernel_rfl
 t85:=Tryz.underlying247
 a85:=Tryz.isAgg247
 z85:=Tryz.sizeOf247
 v85:=Tryz.zeroValue247
 i85:=by kernel_rfl
 t86:=Tryz.underlying248
 a86:=Tryz.isAgg248
 z86:=Tryz.sizeOf248
 v86:=Tryz.zeroValue248
 i86:=by kernel_rfl
 t87:=Tryz.underlying249
 a87:=Tryz.isAgg249
 z87:=Tryz.sizeOf249
 v87:=Tryz.zeroValue249
 i87:=by kernel_rfl
 t89:=Tryz.underlying251
 a89:=Tryz.isAgg251
 z89:=Tryz.sizeOf251
 v89:=Tryz.zeroValue251
 i89:=by kernel_rfl
end Go.Proofs.YtngjomkjlonfpaaGreat
/- The library's stable sort in plain Lean: ranges swapped, blocks turned, two sorted blocks merged in place: a permutation, sorted. -/
namespace Go.Sort
theorem le_trans'{β:Type}{lt:β->β->Bool}(a:SWO lt){x y z:β}(b:lt y x=false)(c:lt z y=false):lt z x=false:=a.ntrans z y x c b
variable {α:Type} [Inhabited α]
def swr:Nat->Nat->Nat->Array α->Array α
 | 0,_,_,d=>d
 | n+1,a,b,d=>swr n (a+1) (b+1) (swp d a b)
theorem jB:∀(n a b:Nat) (d:Array α),(swr n a b d).size=d.size
 | 0,_,_,_=>rfl
 | n+1,a,b,d=>by rw[swr,jB n,size_swp]
theorem Oi:∀(n a b:Nat) (d:Array α),a+n<=b->b+n<=d.size->∀t,(swr n a b d)[t]! = if a<=t/\t<a+n then d[b+(t-a)]! else if b<=t/\t<b+n then d[a+(t-b)]! else d[t]!
 | 0,a,b,d,_,_,t=>by rw[swr,if_neg (by omega),if_neg (by omega)]
 | n+1,a,b,d,k,l,t=>by
  rw[swr,Oi n (a+1) (b+1) (swp d a b) (by omega) (by rw[size_swp];omega) t];have c:=swp_get d (i:=a) (j:=b) (by omega) (by omega);rw[c,c,c];by_cases e:a+1<=t/\t<a+1+n
  ·rw[if_pos e,if_neg (by omega),if_neg (by omega),if_pos (by omega),show b+1+(t-(a+1))=b+(t-a) by omega]
  rw[if_neg e];by_cases f:b+1<=t/\t<b+1+n
  ·rw[if_pos f,if_neg (by omega),if_neg (by omega),if_neg (by omega),if_pos (by omega),show a+1+(t-(b+1))=a+(t-b) by omega]
  rw[if_neg f];by_cases g:t=b
  ·rw[if_pos g,if_neg (by omega),if_pos (by omega),show a+(t-b)=a by omega]
  rw[if_neg g];by_cases h:t=a
  ·rw[if_pos h,if_pos (by omega),show b+(t-a)=b by omega]
  rw[if_neg h,if_neg (by omega),if_neg (by omega)]
theorem IA(lo hi:Nat):∀(n a b:Nat) (d:Array α),lo<=a->a+n<=b->b+n<=hi->hi<=d.size->PermIn lo hi d (swr n a b d)
 | 0,_,_,d,_,_,_,_=>permIn_refl d lo hi
 | n+1,a,b,d,e,f,g,c=>by
  rw[swr];exact permIn_trans _ _ _ lo hi (swp_permIn d lo hi a b e (by omega) (by omega) (by omega) c) (IA lo hi n (a+1) (b+1) _ (by omega) (by omega) (by omega) (by rw[size_swp];exact c))
def afK(x i j:Nat)(d d':Array α):Prop:=∀t,d'[t]! = if x<=t/\t<x+j then d[t+i]! else if x+j<=t/\t<x+j+i then d[t-j]! else d[t]!
def rot(m:Nat):Nat->Nat->Nat->Array α->Array α
 | 0,i,_,d=>d
 | f+1,i,j,d=>if i=j then swr i (m-i) m d else if i>j then rot m f (i-j) j (swr j (m-i) m d)else rot m f i (j-i) (swr i (m-i) (m+j-i) d)
theorem BL(m:Nat):∀(f i j:Nat) (d:Array α),(rot m f i j d).size=d.size
 | 0,_,_,_=>rfl
 | f+1,i,j,d=>by
  unfold rot;split
  ·exact jB _ _ _ _
  ·split
   ·rw[BL m f,jB]
   ·rw[BL m f,jB]
theorem P6(m:Nat):∀(f i j:Nat) (d:Array α),0<i->0<j->i+j<=f->i<=m->m+j<=d.size->afK (m-i) i j d (rot m f i j d)
 | 0,i,j,d,h,k,l,_,_=>absurd l (by omega)
 | f+1,i,j,d,h,k,l,p,r=>by
  intro t;unfold rot;by_cases q:i=j
  ·rw[if_pos q,Oi i (m-i) m d (by omega) (by omega) t];by_cases a:m-i<=t/\t<m-i+i
   ·rw[if_pos a,if_pos (by omega),show m+(t-(m-i))=t+i by omega]
   rw[if_neg a,if_neg (show ¬(m-i<=t/\t<m-i+j) by omega)];by_cases e:m<=t/\t<m+i
   ·rw[if_pos e,if_pos (by omega),show m-i+(t-m)=t-j by omega]
   rw[if_neg e,if_neg (by omega)]
  rw[if_neg q];by_cases n:i>j
  ·rw[if_pos n];have b:=Oi j (m-i) m d (by omega) (by omega);rw[P6 m f (i-j) j (swr j (m-i) m d) (by omega) k (by omega) (by omega) (by rw[jB];omega) t,b,b,b];by_cases c:m-i<=t/\t<m-i+j
   ·rw[if_neg (by omega),if_neg (by omega),if_pos c,if_pos c,show m+(t-(m-i))=t+i by omega]
   rw[if_neg c];by_cases a:m-(i-j)<=t/\t<m-(i-j)+j
   ·rw[if_pos a];by_cases e:m<=t+(i-j)/\t+(i-j)<m+j
    ·rw[if_neg (by omega),if_pos e,if_neg c,if_pos (by omega),show m-i+(t+(i-j)-m)=t-j by omega]
    ·exact absurd (show m<=t+(i-j)/\t+(i-j)<m+j by omega) e
   rw[if_neg a];by_cases g:m-(i-j)+j<=t/\t<m-(i-j)+j+(i-j)
   ·rw[if_pos g,if_neg (by omega),if_neg (by omega),if_neg c,if_pos (by omega)]
   rw[if_neg g,if_neg c,if_neg (by omega),if_neg (by omega)]
  ·rw[if_neg n];have b:=Oi i (m-i) (m+j-i) d (by omega) (by omega);rw[P6 m f i (j-i) (swr i (m-i) (m+j-i) d) h (by omega) (by omega) p (by rw[jB];omega) t,b,b,b];by_cases a:m-i<=t/\t<m-i+(j-i)
   ·rw[if_pos a,if_neg (show ¬(m-i<=t+i/\t+i<m-i+i) by omega),if_neg (show ¬(m+j-i<=t+i/\t+i<m+j-i+i) by omega),if_pos (show m-i<=t/\t<m-i+j by omega)]
   rw[if_neg a];by_cases g:m-i+(j-i)<=t/\t<m-i+(j-i)+i
   ·rw[if_pos g,if_pos (show m-i<=t-(j-i)/\t-(j-i)<m-i+i by omega),if_pos (show m-i<=t/\t<m-i+j by omega),show m+j-i+(t-(j-i)-(m-i))=t+i by omega]
   rw[if_neg g,if_neg (show ¬(m-i<=t/\t<m-i+i) by omega),if_neg (show ¬(m-i<=t/\t<m-i+j) by omega)];by_cases o:m+j-i<=t/\t<m+j-i+i
   ·rw[if_pos o,if_pos (show m-i+j<=t/\t<m-i+j+i by omega),show m-i+(t-(m+j-i))=t-j by omega]
   rw[if_neg o,if_neg (show ¬(m-i+j<=t/\t<m-i+j+i) by omega)]
theorem Qi(lo hi m:Nat):∀(f i j:Nat) (d:Array α),lo+i<=m->m+j<=hi->hi<=d.size->PermIn lo hi d (rot m f i j d)
 | 0,_,_,d,_,_,_=>permIn_refl d lo hi
 | f+1,i,j,d,c,e,a=>by
  unfold rot;by_cases q:i=j
  ·rw[if_pos q];exact IA lo hi _ _ _ d (by omega) (by omega) (by omega) a
  rw[if_neg q];by_cases b:i>j
  ·rw[if_pos b];exact permIn_trans _ _ _ lo hi (IA lo hi j (m-i) m d (by omega) (by omega) (by omega) a) (Qi lo hi m f _ _ _ (by omega) (by omega) (by rw[jB];exact a))
  ·rw[if_neg b];exact permIn_trans _ _ _ lo hi (IA lo hi i (m-i) (m+j-i) d (by omega) (by omega) (by omega) a) (Qi lo hi m f _ _ _ (by omega) (by omega) (by rw[jB];exact a))
def bin(p:Nat->Bool):Nat->Nat->Nat->Nat
 | 0,i,_=>i
 | f+1,i,j=>if i<j then (if p ((i+j) / 2)then bin p f ((i+j) / 2+1) j else bin p f i ((i+j) / 2))else i
theorem zf(p:Nat->Bool):∀(f i j:Nat),i<=j->j-i<=f->(∀x y,i<=x->x<y->y<j->p y=true->p x=true) ->
  i<=bin p f i j/\bin p f i j<=j/\(∀x,i<=x->x<bin p f i j->p x=true)/\(∀x,bin p f i j<=x->x<j->p x=false)
 | 0,i,j,h,t,d=>by
  have:i=j:=by omega
  subst this;exact⟨Nat.le_refl _,Nat.le_refl _,fun x b a=>absurd a (by unfold bin;omega),fun x b a=>absurd a (by unfold bin at b;omega)⟩
 | f+1,i,j,h,t,d=>by
  unfold bin;by_cases q:i<j
  ·rw[if_pos q];cases e:p ((i+j) / 2)with
   | true=>
    simp only[if_true];obtain⟨o,r,k,l⟩:=zf p f ((i+j) / 2+1) j (by omega) (by omega) fun x y g c s=>d x y (by omega) c s
    refine⟨by omega,r,fun x b a=>?_,l⟩;by_cases m:(i+j) / 2+1<=x
    ·exact k x m a
    ·by_cases n:x=(i+j) / 2
     ·rw[n];exact e
     ·exact d x ((i+j) / 2) b (by omega) (by omega) e
   | false=>
    simp only[Bool.false_eq_true,if_false];obtain⟨o,r,k,l⟩:=zf p f i ((i+j) / 2) (by omega) (by omega) fun x y g c s=>d x y g c (by omega)
    refine⟨o,by omega,k,fun x b a=>?_⟩;by_cases m:x<(i+j) / 2
    ·exact l x b m
    ·cases g:p x with
     | false=>rfl
     | true=>
      by_cases n:x=(i+j) / 2
      ·rw[<- n,g]at e;exact e
      ·have:=d ((i+j) / 2) x (by omega) (by omega) a g;rw[e]at this;exact absurd this (by simp)
  ·rw[if_neg q];exact⟨Nat.le_refl _,h,fun x b a=>absurd a (by omega),fun x b a=>absurd a (by omega)⟩
def up:Nat->Nat->Array α->Array α
 | 0,_,d=>d
 | n+1,a,d=>up n (a+1) (swp d a (a+1))
theorem acV:∀(n a:Nat) (d:Array α),(up n a d).size=d.size
 | 0,_,_=>rfl
 | n+1,a,d=>by rw[up,acV n,size_swp]
theorem ahI:∀(n a:Nat) (d:Array α),a+n<d.size->afK a 1 n d (up n a d)
 | 0,a,d,h,t=>by
  rw[up,if_neg (by omega)];by_cases q:a+0<=t/\t<a+0+1
  ·rw[if_pos q,Nat.sub_zero]
  ·rw[if_neg q]
 | n+1,a,d,h,t=>by
  have b:=swp_get d (i:=a) (j:=a+1) (by omega) (by omega);rw[up,ahI n (a+1) (swp d a (a+1)) (by rw[size_swp];omega) t,b,b,b];by_cases e:a+1<=t/\t<a+1+n
  ·rw[if_pos e,if_neg (by omega),if_neg (by omega),if_pos (by omega)]
  rw[if_neg e];by_cases f:a+1+n<=t/\t<a+1+n+1
  ·rw[if_pos f,if_pos (by omega),if_neg (by omega),if_pos (by omega),show t-(n+1)=a by omega]
  rw[if_neg f];by_cases c:t=a
  ·rw[if_neg (by omega),if_pos c,if_pos (by omega),c]
  rw[if_neg (by omega),if_neg c,if_neg (by omega),if_neg (by omega)]
theorem adk(lo hi:Nat):∀(n a:Nat) (d:Array α),lo<=a->a+n<hi->hi<=d.size->PermIn lo hi d (up n a d)
 | 0,_,d,_,_,_=>permIn_refl d lo hi
 | n+1,a,d,c,e,b=>by
  rw[up];exact permIn_trans _ _ _ lo hi (swp_permIn d lo hi a (a+1) c (by omega) (by omega) (by omega) b) (adk lo hi n (a+1) _ (by omega) (by omega) (by rw[size_swp];exact b))
def down:Nat->Nat->Array α->Array α
 | 0,_,d=>d
 | n+1,k,d=>down n (k-1) (swp d k (k-1))
theorem Ut:∀(n a:Nat) (d:Array α),(down n a d).size=d.size
 | 0,_,_=>rfl
 | n+1,a,d=>by rw[down,Ut n,size_swp]
theorem ZF:∀(n k:Nat) (d:Array α),n<=k->k<d.size->afK (k-n) n 1 d (down n k d)
 | 0,k,d,_,h,t=>by
  rw[down];by_cases q:k-0<=t/\t<k-0+1
  ·rw[if_pos q,Nat.add_zero]
  ·rw[if_neg q,if_neg (by omega)]
 | n+1,k,d,f,h,t=>by
  have a:=swp_get d (i:=k) (j:=k-1) (by omega) (by omega);rw[down,ZF n (k-1) (swp d k (k-1)) (by omega) (by rw[size_swp];omega) t,a,a,a];by_cases c:k-1-n<=t/\t<k-1-n+1
  ·rw[if_pos c,if_pos (by omega),if_pos (by omega),show t+(n+1)=k by omega]
  rw[if_neg c,if_neg (show ¬(k-(n+1)<=t/\t<k-(n+1)+1) by omega)];by_cases e:k-1-n+1<=t/\t<k-1-n+1+n
  ·rw[if_pos e,if_neg (by omega),if_neg (by omega),if_pos (by omega)]
  rw[if_neg e];by_cases b:t=k
  ·rw[if_neg (by omega),if_pos b,if_pos (by omega),b]
  rw[if_neg (by omega),if_neg b,if_neg (by omega)]
theorem UH(lo hi:Nat):∀(n k:Nat) (d:Array α),lo+n<=k->k<hi->hi<=d.size->PermIn lo hi d (down n k d)
 | 0,_,d,_,_,_=>permIn_refl d lo hi
 | n+1,k,d,b,c,a=>by
  rw[down];exact permIn_trans _ _ _ lo hi (swp_permIn d lo hi k (k-1) (by omega) (by omega) (by omega) (by omega) a) (UH lo hi n (k-1) _ (by omega) (by omega) (by rw[size_swp];exact a))
section
variable (lt:α->α->Bool)
def cutAt(a m b:Nat)(d:Array α):Nat:=
 let n:=(a+b) / 2+m
 bin (fun c=>!lt d[n-1-c]! d[c]!) (b+1) (if m>(a+b) / 2 then n-b else a) (if m>(a+b) / 2 then (a+b) / 2 else m)
def turned(s m e:Nat)(d:Array α):Array α:=if s<m/\m<e then rot m (e-s) (m-s) (e-m) d else d
def symMerge:Nat->Nat->Nat->Nat->Array α->Array α
 | 0,_,_,_,d=>d
 | f+1,a,m,b,d=>
  if m-a=1 then
   up (bin (fun h=>lt d[h]! d[a]!) (b+1) m b-1-a) a d
  else if b-m=1 then
   down (m-bin (fun h=>!lt d[m]! d[h]!) (b+1) a m) m d
  else
   let mid:=(a+b) / 2
   let s:=cutAt lt a m b d
   let e:=mid+m-s
   let c:=turned s m e d
   let g:=if a<s/\s<mid then symMerge f a s mid c else c
   if mid<e/\e<b then symMerge f mid e b g else g
variable {lt}
theorem wQ(c:SWO lt){a b:Nat}{d:Array α}(h:SortedIn lt a b d){i j:Nat}(e:a<=i)(g:i<=j)(f:j<b):lt d[j]! d[i]! = false:=by
 by_cases q:i=j
 ·rw[q];exact c.irrefl _
 ·exact h i j e (by omega) f
theorem glue{a mid b:Nat}{d:Array α}(f:SortedIn lt a mid d)(g:SortedIn lt mid b d)(h:∀i j,a<=i->i<mid->mid<=j->j<b->lt d[j]! d[i]! = false):SortedIn lt a b d:=fun i j hi c e=>by
 by_cases k:j<mid
 ·exact f i j hi c k
 by_cases l:mid<=i
 ·exact g i j l c e
 ·exact h i j hi (by omega) (by omega) e
theorem abI(x j:Nat)(d:Array α):afK x 0 j d d:=fun t=>by
 by_cases q:x<=t/\t<x+j
 ·rw[if_pos q,Nat.add_zero]
 ·rw[if_neg q,if_neg (by omega)]
theorem abH(x i:Nat)(d:Array α):afK x i 0 d d:=fun t=>by
 rw[if_neg (by omega)];by_cases q:x+0<=t/\t<x+0+i
 ·rw[if_pos q,Nat.sub_zero]
 ·rw[if_neg q]
theorem XQ{s m e:Nat}{d:Array α}(a:s<=m)(b:m<=e)(c:e<=d.size):afK s (m-s) (e-m) d (turned s m e d):=by
 unfold turned;by_cases q:s<m/\m<e
 ·rw[if_pos q];have:=P6 m (e-s) (m-s) (e-m) d (by omega) (by omega) (by omega) (by omega) (by omega);rw[show m-(m-s)=s by omega]at this;exact this
 ·rw[if_neg q];by_cases f:s=m
  ·rw[show m-s=0 by omega];exact abI s _ d
  ·rw[show e-m=0 by omega];exact abH s _ d
theorem XR{lo hi s m e:Nat}{d:Array α}(b:lo<=s)(c:s<=m)(f:m<=e)(g:e<=hi)(a:hi<=d.size):PermIn lo hi d (turned s m e d):=by
 unfold turned;by_cases q:s<m/\m<e
 ·rw[if_pos q];exact Qi lo hi m _ _ _ d (by omega) (by omega) a
 ·rw[if_neg q];exact permIn_refl d lo hi
theorem ahX(f:SWO lt){a m b:Nat}{d:Array α}(D:a<m)(E:m<b)(n:SortedIn lt a m d)(o:SortedIn lt m b d) :
  let mid:=(a+b) / 2
  let s:=cutAt lt a m b d
  let e:=mid+m-s
  a<=s/\s<=m/\m<=e/\e<=b/\s<=mid/\mid<=e/\s+e=mid+m /\
   (∀i j,a<=i->i<s->e<=j->j<b->lt d[j]! d[i]! = false)/\(∀i j,s<=i->i<m->m<=j->j<e->lt d[i]! d[j]! = false):=by
 intro mid s e;have hmid:mid=(a+b) / 2:=rfl;by_cases q:m>mid
 ·have v:s=bin (fun c=>!lt d[mid+m-1-c]! d[c]!) (b+1) (mid+m-b) mid:=by
   show cutAt lt a m b d=_
   unfold cutAt;simp only[<- hmid,if_pos q]
  obtain⟨w,z,p,r⟩:=zf (fun c=>!lt d[mid+m-1-c]! d[c]!) (b+1) (mid+m-b) mid (by omega) (by omega) fun x y F A G h=>by
   have h:lt d[mid+m-1-y]! d[y]! = false:=by simpa using h
   have B:=wQ f n (i:=x) (j:=y) (by omega) (by omega) (by omega);have C:=wQ f o (i:=mid+m-1-y) (j:=mid+m-1-x) (by omega) (by omega) (by omega);have:=le_trans' f (le_trans' f B h) C;simpa using this
  rw[<- v]at w z p r;have H:e=mid+m-s:=rfl;refine⟨by omega,by omega,by omega,by omega,by omega,by omega,by omega,fun i j k t l u=>?_,fun i j k t l u=>?_⟩
  ·have:=p (s-1) (by omega) (by omega);have g:lt d[mid+m-1-(s-1)]! d[s-1]! = false:=by simpa using this
   rw[show mid+m-1-(s-1)=e by omega]at g;exact le_trans' f (le_trans' f (wQ f n (i:=i) (j:=s-1) k (by omega) (by omega)) g) (wQ f o (i:=e) (j:=j) (by omega) l u)
  ·have:=r s (Nat.le_refl _) (by omega);have g:lt d[mid+m-1-s]! d[s]! = true:=by simpa using this
   rw[show mid+m-1-s=e-1 by omega]at g;exact le_trans' f (le_trans' f (wQ f o (i:=j) (j:=e-1) l (by omega) (by omega)) (f.asymmA g)) (wQ f n (i:=s) (j:=i) (by omega) k t)
 ·have v:s=bin (fun c=>!lt d[mid+m-1-c]! d[c]!) (b+1) a m:=by
   show cutAt lt a m b d=_
   unfold cutAt;simp only[<- hmid,if_neg q]
  obtain⟨w,z,p,r⟩:=zf (fun c=>!lt d[mid+m-1-c]! d[c]!) (b+1) a m (by omega) (by omega) fun x y F A G h=>by
   have h:lt d[mid+m-1-y]! d[y]! = false:=by simpa using h
   have B:=wQ f n (i:=x) (j:=y) (by omega) (by omega) (by omega);have C:=wQ f o (i:=mid+m-1-y) (j:=mid+m-1-x) (by omega) (by omega) (by omega);have:=le_trans' f (le_trans' f B h) C;simpa using this
  rw[<- v]at w z p r;have H:e=mid+m-s:=rfl;refine⟨by omega,by omega,by omega,by omega,by omega,by omega,by omega,fun i j k t l u=>?_,fun i j k t l u=>?_⟩
  ·have:=p (s-1) (by omega) (by omega);have g:lt d[mid+m-1-(s-1)]! d[s-1]! = false:=by simpa using this
   rw[show mid+m-1-(s-1)=e by omega]at g;exact le_trans' f (le_trans' f (wQ f n (i:=i) (j:=s-1) k (by omega) (by omega)) g) (wQ f o (i:=e) (j:=j) (by omega) l u)
  ·have:=r s (Nat.le_refl _) (by omega);have g:lt d[mid+m-1-s]! d[s]! = true:=by simpa using this
   rw[show mid+m-1-s=e-1 by omega]at g;exact le_trans' f (le_trans' f (wQ f o (i:=j) (j:=e-1) l (by omega) (by omega)) (f.asymmA g)) (wQ f n (i:=s) (j:=i) (by omega) k t)
theorem sN{a b:Nat}{d d':Array α}(h:SortedIn lt a b d)(c:∀t,a<=t->t<b->d'[t]! = d[t]!):SortedIn lt a b d':=fun i j e g f=>by
 rw[c i e (by omega),c j (by omega) f];exact h i j e g f
theorem xu(o:SWO lt):∀(f a m b:Nat) (d:Array α),b-a<=f->a<m->m<b->b<=d.size->SortedIn lt a m d->SortedIn lt m b d ->
  PermIn a b d (symMerge lt f a m b d)/\SortedIn lt a b (symMerge lt f a m b d)
 | 0,a,m,b,d,h,k,n,_,_,_=>absurd h (by omega)
 | f+1,a,m,b,d,hf,P,I,Q,v,w=>by
  unfold symMerge;by_cases q1:m-a=1
  ·rw[if_pos q1];obtain⟨J,R,p,r⟩:=zf (fun h=>lt d[h]! d[a]!) (b+1) m b (by omega) (by omega) fun x y z l A B=>by
    cases hq:lt d[x]! d[a]! with
    | true=>rfl
    | false=>
     have B:lt d[y]! d[a]! = true:=B;rw[o.ntrans _ _ _ (wQ o w (i:=x) (j:=y) z (by omega) A) hq]at B;cases B
   have p:∀x,m<=x->x<bin (fun h=>lt d[h]! d[a]!) (b+1) m b->lt d[x]! d[a]! = true:=p;have r:∀x,bin (fun h=>lt d[h]! d[a]!) (b+1) m b<=x->x<b->lt d[x]! d[a]! = false:=r;generalize bin (fun h=>lt d[h]! d[a]!) (b+1) m b=i at J R p r;have F:=ahI (i-1-a) a d (by omega);refine⟨adk a b _ a d (Nat.le_refl _) (by omega) Q,fun x y z l A=>?_⟩;rw[F x,F y];by_cases y1:y<a+(i-1-a)
   ·rw[if_pos ⟨by omega,y1⟩,if_pos ⟨by omega,by omega⟩];exact w (x+1) (y+1) (by omega) (by omega) (by omega)
   rw[if_neg (show ¬(a<=y/\y<a+(i-1-a)) by omega)];by_cases y2:y=i-1
   ·rw[if_pos (show a+(i-1-a)<=y/\y<a+(i-1-a)+1 by omega),if_pos (show a<=x/\x<a+(i-1-a) by omega),show y-(i-1-a)=a by omega];exact o.asymmA (p (x+1) (by omega) (by omega))
   rw[if_neg (show ¬(a+(i-1-a)<=y/\y<a+(i-1-a)+1) by omega)];by_cases x1:x<i-1
   ·rw[if_pos (show a<=x/\x<a+(i-1-a) by omega)];exact w (x+1) y (by omega) (by omega) A
   rw[if_neg (show ¬(a<=x/\x<a+(i-1-a)) by omega)];by_cases x2:x=i-1
   ·rw[if_pos (show a+(i-1-a)<=x/\x<a+(i-1-a)+1 by omega),show x-(i-1-a)=a by omega];exact r y (by omega) A
   rw[if_neg (show ¬(a+(i-1-a)<=x/\x<a+(i-1-a)+1) by omega)];exact w x y (by omega) l A
  rw[if_neg q1];by_cases q2:b-m=1
  ·rw[if_pos q2];obtain⟨J,R,p,r⟩:=zf (fun h=>!lt d[m]! d[h]!) (b+1) a m (by omega) (by omega) fun x y z l A B=>by
    have B:lt d[m]! d[y]! = false:=by simpa using B
    have:=le_trans' o (wQ o v (i:=x) (j:=y) z (by omega) A) B;simpa using this
   have p:∀x,a<=x->x<bin (fun h=>!lt d[m]! d[h]!) (b+1) a m->lt d[m]! d[x]! = false:=fun x k n=>by simpa using p x k n
   have r:∀x,bin (fun h=>!lt d[m]! d[h]!) (b+1) a m<=x->x<m->lt d[m]! d[x]! = true:=fun x k n=>by simpa using r x k n
   generalize bin (fun h=>!lt d[m]! d[h]!) (b+1) a m=i at J R p r;have F:=ZF (m-i) m d (by omega) (by omega);rw[show m-(m-i)=i by omega]at F;refine⟨UH a b _ m d (by omega) I Q,fun x y z l A=>?_⟩;rw[F x,F y];by_cases y1:y<i
   ·rw[if_neg (show ¬(i<=y/\y<i+1) by omega),if_neg (show ¬(i+1<=y/\y<i+1+(m-i)) by omega),if_neg (show ¬(i<=x/\x<i+1) by omega),if_neg (show ¬(i+1<=x/\x<i+1+(m-i)) by omega)];exact v x y z l (by omega)
   by_cases y2:y=i
   ·rw[if_pos (show i<=y/\y<i+1 by omega),if_neg (show ¬(i<=x/\x<i+1) by omega),if_neg (show ¬(i+1<=x/\x<i+1+(m-i)) by omega),show y+(m-i)=m by omega];exact p x z (by omega)
   rw[if_neg (show ¬(i<=y/\y<i+1) by omega),if_pos (show i+1<=y/\y<i+1+(m-i) by omega)];by_cases x1:x<i
   ·rw[if_neg (show ¬(i<=x/\x<i+1) by omega),if_neg (show ¬(i+1<=x/\x<i+1+(m-i)) by omega)];exact v x (y-1) z (by omega) (by omega)
   by_cases x2:x=i
   ·rw[if_pos (show i<=x/\x<i+1 by omega),show x+(m-i)=m by omega];exact o.asymmA (r (y-1) (by omega) (by omega))
   rw[if_neg (show ¬(i<=x/\x<i+1) by omega),if_pos (show i+1<=x/\x<i+1+(m-i) by omega)];exact v (x-1) (y-1) (by omega) (by omega) (by omega)
  rw[if_neg q2];obtain⟨s1,S,L,T,s5,s6,s7,U,V⟩:=ahX o P I v w;have hmid:(a+b) / 2=(a+b) / 2:=rfl;simp only;generalize cutAt lt a m b d=s at s1 S L T s5 s6 s7 U V;generalize hE:(a+b) / 2+m-s=e at L T s6 s7 U V;have hm1:2*((a+b) / 2)<=a+b/\a+b<=2*((a+b) / 2)+1:=by omega
  generalize (a+b) / 2=mid at *;have K:=XQ (d:=d) S L (by omega);have D:=XR (lo:=a) (hi:=b) (d:=d) s1 S L T Q;generalize turned s m e d=c at K D;have hd1:c.size=d.size:=D.1;have t1:∀t,t<s->c[t]! = d[t]!:=fun t h=>by rw[K t,if_neg (by omega),if_neg (by omega)]
  have W:∀t,s<=t->t<mid->c[t]! = d[t+(m-s)]!:=fun t h h'=>by rw[K t,if_pos (by omega)]
  have M:∀t,mid<=t->t<e->c[t]! = d[t-(e-m)]!:=fun t h h'=>by rw[K t,if_neg (by omega),if_pos (by omega)]
  have N:∀t,e<=t->c[t]! = d[t]!:=fun t h=>by rw[K t,if_neg (by omega),if_neg (by omega)]
  have g1:SortedIn lt a s c:=fun i j k n E=>by rw[t1 i (by omega),t1 j E];exact v i j k n (by omega)
  have g2:SortedIn lt s mid c:=fun i j k n E=>by rw[W i k (by omega),W j (by omega) E];exact w _ _ (by omega) (by omega) (by omega)
  have g3:SortedIn lt mid e c:=fun i j k n E=>by rw[M i k (by omega),M j (by omega) E];exact v _ _ (by omega) (by omega) (by omega)
  have g4:SortedIn lt e b c:=fun i j k n E=>by rw[N i k,N j (by omega)];exact w i j (by omega) n E
  have X:∀i j,a<=i->i<mid->mid<=j->j<b->lt c[j]! c[i]! = false:=fun i j G H u C=>by
   by_cases iq:i<s
   ·rw[t1 i iq];by_cases jq:j<e
    ·rw[M j u jq];exact v i _ G (by omega) (by omega)
    ·rw[N j (by omega)];exact U i j G iq (by omega) C
   ·rw[W i (by omega) H];by_cases jq:j<e
    ·rw[M j u jq];exact V _ _ (by omega) (by omega) (by omega) (by omega)
    ·rw[N j (by omega)];exact w _ j (by omega) (by omega) C
  have left:PermIn a mid c (if a<s/\s<mid then symMerge lt f a s mid c else c)/\SortedIn lt a mid (if a<s/\s<mid then symMerge lt f a s mid c else c):=by
   by_cases q:a<s/\s<mid
   ·rw[if_pos q];exact xu o f a s mid c (by omega) q.1 q.2 (by omega) g1 g2
   ·rw[if_neg q];refine⟨permIn_refl _ _ _,?_⟩;by_cases Y:s=a
    ·rw[<- Y];exact g2
    ·have:s=mid:=by omega
     rw[<- this];exact g1
  generalize (if a<s/\s<mid then symMerge lt f a s mid c else c)=g at left;obtain⟨O,Z⟩:=left;have hd2:g.size=c.size:=O.1;have k2:∀t,mid<=t->g[t]! = c[t]!:=fun t h=>O.2.1 t (.inr h)
  have right:PermIn mid b g (if mid<e/\e<b then symMerge lt f mid e b g else g)/\SortedIn lt mid b (if mid<e/\e<b then symMerge lt f mid e b g else g):=by
   have g3':SortedIn lt mid e g:=sN g3 fun t h _=>k2 t h
   have g4':SortedIn lt e b g:=sN g4 fun t h _=>k2 t (by omega)
   by_cases q:mid<e/\e<b
   ·rw[if_pos q];exact xu o f mid e b g (by omega) q.1 q.2 (by omega) g3' g4'
   ·rw[if_neg q];refine⟨permIn_refl _ _ _,?_⟩;by_cases Y:e=mid
    ·rw[<- Y];exact g4'
    ·have:e=b:=by omega
     rw[<- this];exact g3'
  generalize (if mid<e/\e<b then symMerge lt f mid e b g else g)=d3 at right;obtain⟨p3,so3⟩:=right;have k3:∀t,t<mid->d3[t]! = g[t]!:=fun t h=>p3.2.1 t (.inl h)
  refine⟨permIn_trans _ _ _ a b D (permIn_trans _ _ _ a b (permIn_mono _ _ a mid a b (Nat.le_refl _) (by omega) (by omega) O) (permIn_mono _ _ mid b a b (by omega) (Nat.le_refl _) (by omega) p3)),?_⟩;refine glue (sN Z fun t _ h=>k3 t h) so3 fun i j G H u C=>?_
  have J:∀j,mid<=j->j<b->∀i,a<=i->i<mid->lt g[j]! g[i]! = false:=fun j u C=>by
   rw[k2 j u];exact permIn_all c g a mid (fun x=>lt c[j]! x=false) (by omega) O fun i G H=>X i j G H u C
  rw[k3 i H];exact permIn_all g d3 mid b (fun x=>lt x g[i]! = false) (by omega) p3 (fun j u C=>J j u C i G H) j u C
end
end Go.Sort
/- The library's stable sort, walked: ranges swapped, blocks turned, at elements of k cells. -/
namespace Go.Proofs
open Go.Shelf Go.RowKit Go.Lib Go.Sort
variable {P:Program} {ρ:Ren} {α:Type} [Inhabited α] {enc:α->List Value} {k:Nat} {w0 w1 W W':World} {blk off:Nat} {dk dj:Array α}
theorem SWK.comp(h:SWK enc k w0 blk off dk W)(hblk:blk<w0.heap.size)(a:SWK enc k W blk off dj W')(b:dj.size=dk.size):SWK enc k w0 blk off dj W':=by
 obtain⟨n,os,rfl⟩:=a;exact h.on hblk n dj os b
theorem SWK.cellAt(h:SWK enc k w0 blk off dk W){b o:Nat}(c:b≠blk)(a:b<w0.heap.size):W.cell? ⟨b,o,none⟩=w0.cell? ⟨b,o,none⟩:=by
 obtain⟨n,os,rfl⟩:=h;unfold sortWorldK;rw[cell?_grow _ _ _ (by rw[size_putRowK];exact a),cell?_putRowK_other enc k _ blk off dk _ c];rfl
def gV(P:Program)(g:Nat)(lb:Array Value)(enc:α->List Value)(k:Nat)(lt:α->α->Bool)(blk off size:Nat)(w:World):Prop:=
 ∀(m:Nat) (os:Array Obj) (dk:Array α),dk.size=size->∀i j:Nat,i<size->j<size ->
  Calls P g (#[.int .i64 i,.int .i64 j]++lb) (sortWorldK enc k w blk off m dk os) fun e w'=>e=.returned (.bool (lt dk[i]! dk[j]!))/\SWK enc k (sortWorldK enc k w blk off m dk os) blk off dk w'
theorem SWK.lays{g:Nat}{lb:Array Value}{lt:α->α->Bool}{size:Nat}(h:SWK enc k w0 blk off dk W)(a:gV P g lb enc k lt blk off size w0)(b:dk.size=size)(i j:Nat)(hi:i<size)(c:j<size) :
  Calls P g (#[.int .i64 i,.int .i64 j]++lb) W fun e w'=>e=.returned (.bool (lt dk[i]! dk[j]!))/\SWK enc k W blk off dk w':=by
 obtain⟨n,os,rfl⟩:=h;exact a n os dk b i j hi c
theorem SWK.aho{g:Nat}{lb:Array Value}{lt:α->α->Bool}{size:Nat}(h:SWK enc k w0 blk off dk W)(c:gV P g lb enc k lt blk off size w0)(hblk:blk<w0.heap.size)(d:dk.size=size):gV P g lb enc k lt blk off size W:=by
 intro m os dj b i j hi a;obtain⟨n',os',e⟩:=h.on hblk m dj os (b.trans d.symm);rw[e];exact c n' os' dj b i j hi a
theorem gV.grow{g:Nat}{lb:Array Value}{lt:α->α->Bool}{size:Nat}(h:gV P g lb enc k lt blk off size w0)(hblk:blk<w0.heap.size)(a:Array Obj):gV P g lb enc k lt blk off size (Sort.grow w0 a):=fun m os dk b i j hi c=>by
 have e:sortWorldK enc k (Sort.grow w0 a) blk off m dk os=sortWorldK enc k w0 blk off m dk (a++os):=by
  unfold sortWorldK;rw[ahead_grow,putRowK_grow enc k (Sort.ahead w0 m) _ blk off _ hblk,grow_grow]
 rw[e];exact h m _ dk b i j hi c
set_option maxHeartbeats 4000000 in
set_option maxRecDepth 100000 in
theorem OL(L:LaysGt.n49 P ρ)(o:∀x,(enc x).length=k)(lv:Value)(sf:Nat)(sb:Array Value)(a b n:Nat)(d:Array α)
  (hswap:SwapSwapsK P sf sb enc k blk off d.size) (j:HoldsK enc k W blk off d) (hblk:blk<W.heap.size) (u:a+n<=d.size) (v:b+n<=d.size) (p:d.size<4611686018427387904) :
  Calls P (ρ.f 49) #[.agg #[lv,.func (.func sf) #[] sb],.int .i64 a,.int .i64 b,.int .i64 n] W fun e w'=>e=.returned (.tuple #[])/\SWK enc k W blk off (swr n a b d) w':=by
 have mixed:=L.mixed;have t0:=L.t0;have a0:=L.a0;have z0:=L.z0;have v0:=L.v0;have t3:=L.t3;have a3:=L.a3;have z3:=L.z3;have v3:=L.v3;have t4:=L.t4;have a4:=L.a4;have z4:=L.z4;have v4:=L.v4;have t26:=L.t26;have a26:=L.a26;have z26:=L.z26;have v26:=L.v26;have t38:=L.t38;have a38:=L.a38;have z38:=L.z38;have v38:=L.v38;have t42:=L.t42;have a42:=L.a42;have z42:=L.z42;have v42:=L.v42;have q:=run_underlying L.t42;go_enter L.f49,BodyGt.n49_ntmps ρ
 go_wp2
 go_loopw [8] (fun vi wr=>∃(i:Nat) (dj:Array α),vi=.int .i64 i/\i<=n/\dj.size=d.size/\SWK enc k (W.alloc (.cells #[lv,.func (.func sf) #[] sb] (ρ.t 42))) blk off dj wr/\swr (n-i) (a+i) (b+i) dj=swr n a b d) (fun vi _=>n-(intOf vi).toNat)
 case atStart=>exact⟨0,d,rfl,Nat.zero_le _,rfl,SWK.start (by rw[alloc_eq_grow];exact holdsK_grow enc k W _ blk off d hblk j),rfl⟩
 case round=>
  obtain⟨i,dj,rfl,hi,c,g,l⟩:=hrel
  have h:blk<(W.alloc (.cells #[lv,.func (.func sf) #[] sb] (ρ.t 42))).heap.size:=by rw[alloc_eq_grow,size_grow];omega
  have m:HoldsK enc k (W.alloc (.cells #[lv,.func (.func sf) #[] sb] (ρ.t 42))) blk off d:=by rw[alloc_eq_grow];exact holdsK_grow enc k W _ blk off d hblk j
  have w:wr.cell? ⟨W.heap.size,1,none⟩=some (.func (.func sf) #[] sb):=by
   rw[g.cellAt (b:=W.heap.size) (by omega) (by rw[alloc_eq_grow,size_grow];simp)];simp
  have hHw:=g.holds h m c
  have HW:Hid _:=g
  have HE:Hid _:=l
  by_cases r:i<n
  ·have s:=hswap wr dj hHw c (a+i) (b+i) (by omega) (by omega);rw[show ((a+i:Nat):Int)=(a:Int)+(i:Int) by omega,show ((b+i:Nat):Int)=(b:Int)+(i:Int) by omega]at s;clear g l hHw;go_wp2
   refine⟨⟨i+1,swp dj (a+i) (b+i),by congr 1,by omega,by rw[size_swp];exact c,SWK.swap HW.out o h (a+i) (b+i) (by omega) (by omega),?_⟩,by simp[intOf];omega⟩;rw[<- HE.out,show n-i=(n-(i+1))+1 by omega];rfl
  ·clear g l hHw;go_wp2
   go_end0
   refine⟨rfl,?_⟩;have e:=HE.out;rw[show n-i=0 by omega]at e;have e:dj=swr n a b d:=e;rw[<- e];have:=SWK.comp (SWK.alloc (SWK.start j) (.cells #[lv,.func (.func sf) #[] sb] (ρ.t 42))) hblk HW.out c;exact this
set_option maxHeartbeats 4000000 in
set_option maxRecDepth 100000 in
theorem YM(L:LaysGt.n42 P ρ)(C:∀x,(enc x).length=k)(lv:Value)(sf:Nat)(sb:Array Value)(a m b:Nat)(d:Array α)
  (hswap:SwapSwapsK P sf sb enc k blk off d.size) (s:HoldsK enc k W blk off d) (hblk:blk<W.heap.size) (D:a<m) (E:m<b) (K:b<=d.size) (F:d.size<4611686018427387904) :
  Calls P (ρ.f 42) #[.agg #[lv,.func (.func sf) #[] sb],.int .i64 a,.int .i64 m,.int .i64 b] W fun e w'=>e=.returned (.tuple #[])/\SWK enc k W blk off (rot m (b-a) (m-a) (b-m) d) w':=by
 have mixed:=L.mixed;have t0:=L.t0;have a0:=L.a0;have z0:=L.z0;have v0:=L.v0;have t3:=L.t3;have a3:=L.a3;have z3:=L.z3;have v3:=L.v3;have t4:=L.t4;have a4:=L.a4;have z4:=L.z4;have v4:=L.v4;have t26:=L.t26;have a26:=L.a26;have z26:=L.z26;have v26:=L.v26;have t38:=L.t38;have a38:=L.a38;have z38:=L.z38;have v38:=L.v38;have t42:=L.t42;have a42:=L.a42;have z42:=L.z42;have v42:=L.v42;have G:=run_underlying L.t42;have u:LaysGt.n49 P ρ:={ L with };have H:∀args w,(callFunc (ρ.f 49) args).run P w=.ok (.enter (ρ.f 49) args) w:=enters_of L.f49 (by kernel_rfl) rfl;have c:blk<(W.alloc (.cells #[lv,.func (.func sf) #[] sb] (ρ.t 42))).heap.size:=by rw[alloc_eq_grow,size_grow];omega
 have o:HoldsK enc k (W.alloc (.cells #[lv,.func (.func sf) #[] sb] (ρ.t 42))) blk off d:=by rw[alloc_eq_grow];exact holdsK_grow enc k W _ blk off d hblk s
 go_enter L.f42,BodyGt.n42_ntmps ρ
 go_wp2
 go_loopw [8,9] (fun vi vj wr=>∃(i j f:Nat) (dj:Array α),vi=.int .i64 i/\vj=.int .i64 j/\0<i/\0<j/\i+j<=f/\i<=m-a/\j<=b-m/\dj.size=d.size/\SWK enc k (W.alloc (.cells #[lv,.func (.func sf) #[] sb] (ρ.t 42))) blk off dj wr/\rot m f i j dj=rot m (b-a) (m-a) (b-m) d) (fun vi vj _=>(intOf vi).toNat+(intOf vj).toNat)
 case atStart=>exact⟨m-a,b-m,b-a,d,by congr 1;omega,by congr 1;omega,by omega,by omega,by omega,Nat.le_refl _,Nat.le_refl _,rfl,SWK.start o,rfl⟩
 case round=>
  obtain⟨i,j,f,dj,rfl,rfl,hi,I,M,v,z,g,q,B⟩:=hrel
  have hHw:=q.holds c o g
  have A:=q.lt c
  have N:wr.cell? ⟨W.heap.size,0,none⟩=some lv:=by
   rw[q.cellAt (b:=W.heap.size) (by omega) (by rw[alloc_eq_grow,size_grow];simp)];simp
  have O:wr.cell? ⟨W.heap.size,1,none⟩=some (.func (.func sf) #[] sb):=by
   rw[q.cellAt (b:=W.heap.size) (by omega) (by rw[alloc_eq_grow,size_grow];simp)];simp
  have sr:∀x y n:Nat,x+n<=d.size->y+n<=d.size->Calls P (ρ.f 49) #[.agg #[lv,.func (.func sf) #[] sb],.int .i64 x,.int .i64 y,.int .i64 n] wr fun e w'=>e=.returned (.tuple #[])/\SWK enc k wr blk off (swr n x y dj) w':=
   fun x y n l Q=>OL u C lv sf sb x y n dj (by rw[g];exact hswap) hHw A (by omega) (by omega) (by omega)
  have HW:Hid _:=q
  have HE:Hid _:=B
  have SR:Hid _:=sr
  have J:Hid _:=s
  clear q B hHw sr hswap s o
  obtain⟨f',rfl⟩:∃f',f=f'+1:=⟨f-1,by omega⟩
  by_cases p:i=j
  ·subst p;have l:=SR.out (m-i) m i (by omega) (by omega);rw[show ((m-i:Nat):Int)=(m:Int)-(i:Int) by omega]at l;clear SR;go_wp2_with (go_at_fn (ρ.f 49);refine l.mono ?_;rintro e w' ⟨rfl,h⟩)
   go_end0
   refine⟨rfl,?_⟩;have e:=HE.out;rw[rot,if_pos rfl]at e;rw[<- e];exact SWK.comp (SWK.alloc (SWK.start J.out) _) hblk (SWK.comp HW.out c h (by rw[jB])) (by rw[jB];exact g)
  ·by_cases r:i>j
   ·have l:=SR.out (m-i) m j (by omega) (by omega);rw[show ((m-i:Nat):Int)=(m:Int)-(i:Int) by omega]at l;clear SR;go_wp2_with (go_at_fn (ρ.f 49);refine l.mono ?_;rintro e w' ⟨rfl,h⟩)
    go_roundw
    case rel=>
     refine⟨i-j,j,f',swr j (m-i) m dj,by congr 1;omega,rfl,by omega,I,by omega,by omega,z,by rw[jB];exact g,SWK.comp HW.out c h (by rw[jB]),?_⟩
     rw[<- HE.out,rot,if_neg p,if_pos r]
    case measure=>simp[intOf];omega
   ·have l:=SR.out (m-i) (m+j-i) i (by omega) (by omega);rw[show ((m-i:Nat):Int)=(m:Int)-(i:Int) by omega,show ((m+j-i:Nat):Int)=(m:Int)+(j:Int)-(i:Int) by omega]at l;clear SR;go_wp2_with (go_at_fn (ρ.f 49);refine l.mono ?_;rintro e w' ⟨rfl,h⟩)
    go_roundw
    case rel=>
     refine⟨i,j-i,f',swr i (m-i) (m+j-i) dj,rfl,by congr 1;omega,hi,by omega,by omega,v,by omega,by rw[jB];exact g,SWK.comp HW.out c h (by rw[jB]),?_⟩
     rw[<- HE.out,rot,if_neg p,if_neg r]
    case measure=>simp[intOf];omega
end Go.Proofs
