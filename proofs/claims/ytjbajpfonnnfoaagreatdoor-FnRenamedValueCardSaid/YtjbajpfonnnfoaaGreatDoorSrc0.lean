import Derived.Test.YtjbajpfonnnfoaaGreatDoorMk
import Derived.StillTailTactics
set_option linter.unusedSimpArgs false
set_option linter.unusedVariables false
/- A table of the call's own to the bottom, of which a row's number is written anew. -/
namespace Go.Proofs.YtjbajpfonnnfoaaGreatDoor
open Go.Abs Go.Proofs Go.RowKit
abbrev Own(w:World)(d:D)(v:Value)(fp:Nat->Prop):Prop:=Ow w (λ_ _=>False) true d v fp
theorem KP{w:World}{k:IntKind}{n:Int}{u:Value}{fp:Nat->Prop}(h:Own w (.int k n) u fp):u=.int k n:=by
 generalize a:D.int k n=d at h;cases h with
 | int=>cases a;rfl
 | ro d v fp b h=>cases b
 | bool c=>cases a
 | str=>cases a
 | nil=>cases a
 | list=>cases a
theorem ahk{w:World}{s:Str}{u:Value}{fp:Nat->Prop}(h:Own w (.str s) u fp):u=.string ⟨s.toArray⟩:=by
 generalize a:D.str s=d at h;cases h with
 | str v=>cases a;rfl
 | ro d v fp b h=>cases b
 | bool c=>cases a
 | int=>cases a
 | nil=>cases a
 | list=>cases a
theorem KO{w:World}{t:Ty}{xs:List t.den}{u:Value}{fp:Nat->Prop}(h:Own w (.list t xs) u fp):∃ad cap,u=.slice ad xs.length cap/\xs.length<=maxLen:=by
 generalize a:D.list t xs=d at h;cases h with
 | nil=>cases a;exact⟨_,_,rfl,Nat.zero_le _⟩
 | list t xs b cap arr E vs fps fp f hcap hmax=>cases a;exact⟨_,_,rfl,amq hcap hmax⟩
 | ro d v fp e h=>cases e
 | bool c=>cases a
 | int=>cases a
 | str=>cases a
abbrev P5(x:af)(lv cv rv:Value):List Value:=[.int .i64 x.kind,.int .i64 x.n,.int .i64 x.step,.string ⟨x.text.toArray⟩,lv,cv,rv]
theorem Ro{w:World}{x:af}{fps:Nat->Nat->Prop}:∀ {vs:List Value},aV (λi d u=>Own w d u (fps i)) 0 ((Ty.base .val).cells x) vs ->
  ∃lv cv rv,vs=P5 x lv cv rv/\Own w (.list (.base .val) x.list) lv (fps 4)/\Own w (.list (.base .str) x.columns) cv (fps 5)/\Own w (.list (.base .row) x.rows) rv (fps 6)
 | [a,b,c,d,e,f,g],h=>by
  obtain⟨j,k,l,m,n,o,p,_⟩:=h;have q:=KP j;have r:=KP k;have s:=KP l;have t:=ahk m;subst q;subst r;subst s;subst t;exact⟨e,f,g,rfl,n,o,p⟩
abbrev Ip(row:aB)(k:Nat)(n:Int):aB:=aB.mk (row.cells.set k n) row.orig
theorem aa8{w:World}{rows:List aB}{rv:Value}{F:Nat->Prop}(h:Own w (.list (.base .row) rows) rv F){i:Nat}{row:aB}(hi:rows[i]?=some row) :
  ∃rb cap arr E cv,rv=.slice (some ⟨rb,0,none⟩) rows.length cap/\rows.length<=cap/\F rb/\w.heap[rb]?=some (.cells arr E (0,0))/\arr[i*2]?=some cv/\(∃ad c,cv=.slice ad row.cells.length c/\row.cells.length<=maxLen) /\
   ∀k,k<row.cells.length->∃b c arr' E',cv=.slice (some ⟨b,0,none⟩) row.cells.length c/\row.cells.length<=c/\b≠rb/\F b/\w.heap[b]?=some (.cells arr' E' (0,0))/\k<arr'.size /\
    ∀(n:Int) (w':World),(∀c,F c->c≠b->w'.heap[c]?=w.heap[c]?)->w'.heap[b]?=some (.cells (arr'.setIfInBounds k (.int .i64 n)) E' (0,0))->Own w' (.list (.base .row) (rows.set i (Ip row k n))) rv F:=by
 generalize a:D.list (.base .row) rows=d at h;cases h with
 | nil=>cases a;simp at hi
 | ro d v fp l h=>cases l
 | bool c=>cases a
 | int=>cases a
 | str=>cases a
 | list t xs rb cap arr E vs fps fp V hcap hmax H s hc I hf hdis=>
  cases a
  have W:=hc i row 0 _ hi rfl;have A:Own w (.list (.base .int) row.cells) (vs i 0) (fps i 0):=I i row 0 _ hi rfl;refine⟨rb,cap,arr,E,vs i 0,rfl,hcap,s,V,W,KO A,λk hk=>?_⟩;generalize J:vs i 0=cv at A;generalize B:fps i 0=K at A;generalize a:D.list (.base .int) row.cells=d at A;cases A with
  | nil=>injection a with L a;subst L;have a:=eq_of_heq a;rw[a]at hk;simp at hk
  | ro d v fp l h=>cases l
  | bool c=>cases a
  | int=>cases a
  | str=>cases a
  | list t' xs' b cap' arr' E' vs' fps' fp' M hcap' hmax' p r N O P hdis'=>
   injection a with L Q;subst L;have Q:=eq_of_heq Q;subst Q;have o:fps i 0 b:=by rw[B];exact r
   have C:b≠rb:=(hf i 0 b o).2;have X:arr'.size=cap'*1:=p;refine⟨b,cap',arr',E',rfl,hcap',C,(hf i 0 b o).1,M,by omega,λn w' u R=>?_⟩;have Y:(rows.set i (Ip row k n)).length=rows.length:=List.length_set;have T:w'.heap[rb]?=some (.cells arr E (0,0)):=(u rb s (Ne.symm C)).trans V;have key:=Ow.list (w:=w') (S:=λ_ _=>False) (deep:=true) (.base .row) (rows.set i (Ip row k n)) rb cap arr E vs fps F T (by rw[Y];exact hcap) hmax H s (λi' x j d l a=>?_) (λi' x j d l a=>?_) hf hdis
   ·rw[Y]at key;exact key
   ·by_cases g:i'=i
    ·subst g;match j,a with
     | 0,_=>exact W
     | 1,_=>exact hc i' row 1 _ hi rfl
    ·rw[List.getElem?_set_ne (Ne.symm g)]at l;exact hc i' x j d l a
   ·by_cases g:i'=i
    ·subst g;have U:x=Ip row k n:=by
      rw[List.getElem?_set_self (zC.1 hi).1]at l;exact (a7 l).symm
     subst U;match j,a with
     | 0,a=>
      have a:D.list (.base .int) (row.cells.set k n)=d:=a7 a;subst a;have G:(row.cells.set k n).length=row.cells.length:=List.length_set;rw[J,B];have key:=Ow.list (w:=w') (S:=λ_ _=>False) (deep:=true) (.base .int) (row.cells.set k n) b cap' (arr'.setIfInBounds k (.int .i64 n)) E' (λi j=>if i=k then .int .i64 n else vs' i j) fps' K R (by rw[G];exact hcap') hmax' (by simpa using p) r (λi'' y j'' d'' z hd''=>?_) (λi'' y j'' d'' z hd''=>?_) P hdis'
      ·rw[G]at key;exact key
      ·match j'',hd'' with
       | 0,hd''=>
        have hd'':D.int .i64 y=d'':=a7 hd'';subst hd'';show (arr'.setIfInBounds k (.int .i64 n))[i''*1+0]?=_
        rw[Nat.mul_one,Nat.add_zero,Array.getElem?_setIfInBounds];by_cases f:i''=k
        ·subst f;rw[if_pos rfl,if_pos (by omega),if_pos rfl]
        ·rw[if_neg (Ne.symm f),if_neg f];rw[List.getElem?_set_ne (Ne.symm f)]at z;have:=N i'' y 0 _ z rfl;rwa [show i''*(Ty.base .int).size+0=i'' from by show i''*1+0=i'';omega]at this
      ·match j'',hd'' with
       | 0,hd''=>
        have hd'':D.int .i64 y=d'':=a7 hd'';subst hd'';by_cases f:i''=k
        ·subst f;rw[List.getElem?_set_self hk]at z;have:n=y:=a7 z;subst this;rw[if_pos rfl];exact Ow.int _ _ _
        ·rw[if_neg f];rw[List.getElem?_set_ne (Ne.symm f)]at z;have:=KP (O i'' y 0 _ z rfl);rw[this];exact Ow.int _ _ _
     | 1,a=>
      refine (I i' row 1 d hi a).move (λ_ _ q=>q.elim) λc m=>u c (hf i' 1 c m).1 λe=>?_
      subst e;have:=(hdis i' 1 i' 0 c m o).2;cases this
    ·rw[List.getElem?_set_ne (Ne.symm g)]at l;refine (I i' x j d l a).move (λ_ _ q=>q.elim) λc m=>u c (hf i' j c m).1 λe=>?_
     subst e;exact g (hdis i' j i 0 c m o).1
