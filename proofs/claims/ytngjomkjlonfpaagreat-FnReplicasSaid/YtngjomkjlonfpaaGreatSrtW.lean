import Derived.Test.YtngjomkjlonfpaaGreatLay
import Derived.Test.YtngjomkjlonfpaaGreatSrt0
import Derived.Test.YtngjomkjlonfpaaGreatOps2
import Derived.StillTailTactics
set_option linter.unusedSimpArgs false
set_option linter.unusedVariables false
/- The order by which operations are sorted: the closure's walk. -/
namespace Go.Proofs.YtngjomkjlonfpaaGreat
open Go.Abs Go.Proofs Go.Shelf Go.RowKit Go.Lib Go.Sort
def ab7(x:GOp)(cs:List Value):Prop:=∃r:List Value,cs=.int .i64 x.time :: .int .i64 x.by_::r
theorem ae9(w:World)(S:Nat->Nat->Prop)(deep:Bool)(x:GOp)(cs:List Value)(fps:Nat->Nat->Prop)(c:cs.length=(Ty.base .op).size)
  (h:∀(j:Nat) (d:D) (v:Value),((Ty.base .op).cells x)[j]?=some d->cs[j]?=some v->Ow w S deep d v (fps j)):ab7 x cs:=by
 match cs,c with
 | a::b::r,_=>
  have f:=h 0 _ a rfl rfl;have g:=h 1 _ b rfl rfl;have e:∀ {n:Int} {v:Value} {fp:Nat->Prop},Ow w S deep (.int .i64 n) v fp->v=.int .i64 n:=fun h=>by
   cases h with
   | int k n=>rfl
   | ro d v fp i h=>cases h;rfl
  exact⟨r,by rw[e f,e g]⟩
set_option maxHeartbeats 2000000 in
set_option maxRecDepth 100000 in
theorem TD(xi xj:GOp)(ri rj:List Value)(W:World) :
  Calls Tryz.prog 28 #[.agg (.int .i64 xi.time :: .int .i64 xi.by_::ri).toArray,.agg (.int .i64 xj.time :: .int .i64 xj.by_::rj).toArray] W fun e w'=>e=.returned (.bool (iG xi xj))/\∃m os,w'=grow (Sort.ahead W m) os:=by
 have mixed:=sl8.mixed;go_enter Tryz.func28,Tryz.ntmps28
 go_wp2
 all_goals
  go_ret
  refine⟨?_,0,_,by rw[alloc_eq_grow,alloc_eq_grow,grow_grow];rfl⟩
 ·show Ending.returned (.bool (decide (xi.by_<xj.by_)))=_
  have e:xi.time=xj.time:=by assumption
  simp[iG,e]
 ·show Ending.returned (.bool (decide (xi.time<xj.time)))=_
  have e:¬xi.time=xj.time:=by assumption
  have a:(xi.time==xj.time)=false:=by simpa using e
  simp[iG,a]
 ·show Ending.returned (.bool true)=_
  have e:xi.time<xj.time:=by assumption
  simp[iG,e]
theorem fifteen{α:Type}(l:List α)(h:l.length=15):∃i j k m n o p q a b c d e f g,l=[i,j,k,m,n,o,p,q,a,b,c,d,e,f,g]:=by
 match l,h with
 | [i,j,k,m,n,o,p,q,a,b,c,d,e,f,g],_=>exact⟨_,_,_,_,_,_,_,_,_,_,_,_,_,_,_,rfl⟩
set_option maxHeartbeats 4000000 in
set_option maxRecDepth 100000 in
theorem less_walk:aiv Tryz.prog 27 (.base .op) ab7 iG:=by
 intro W bb blk n cap i j xi xj ci cj hi hj hn N a b v w h1i h1j lxi lxj;obtain⟨ri,rfl⟩:=lxi;obtain⟨rj,rfl⟩:=lxj;obtain⟨x,y,z,A,B,C,D,E,c,d,f,g,h,k,l,rfl⟩:∃x y z A B C D E c d f g h k l,ri=[x,y,z,A,B,C,D,E,c,d,f,g,h,k,l]:=fifteen ri (by have:=v;change ri.length+1+1=17 at this;omega);obtain⟨F,G,H,I,J,K,L,M,o,p,q,r,s,t,u,rfl⟩:∃F G H I J K L M o p q r s t u,rj=[F,G,H,I,J,K,L,M,o,p,q,r,s,t,u]:=fifteen rj (by have:=w;change rj.length+1+1=17 at this;omega);have O:W.cell? ⟨blk,i*17,none⟩=some (.int .i64 xi.time):=a 0 (by decide);have P:W.cell? ⟨blk,i*17+1,none⟩=some (.int .i64 xi.by_):=a 1 (by decide);have Q:W.cell? ⟨blk,i*17+2,none⟩=some x:=a 2 (by decide);have R:W.cell? ⟨blk,i*17+3,none⟩=some y:=a 3 (by decide);have S:W.cell? ⟨blk,i*17+4,none⟩=some z:=a 4 (by decide);have T:W.cell? ⟨blk,i*17+5,none⟩=some A:=a 5 (by decide);have U:W.cell? ⟨blk,i*17+6,none⟩=some B:=a 6 (by decide);have V:W.cell? ⟨blk,i*17+7,none⟩=some C:=a 7 (by decide);have X:W.cell? ⟨blk,i*17+8,none⟩=some D:=a 8 (by decide);have Y:W.cell? ⟨blk,i*17+9,none⟩=some E:=a 9 (by decide);have ci10:W.cell? ⟨blk,i*17+10,none⟩=some c:=a 10 (by decide);have ci11:W.cell? ⟨blk,i*17+11,none⟩=some d:=a 11 (by decide);have ci12:W.cell? ⟨blk,i*17+12,none⟩=some f:=a 12 (by decide);have ci13:W.cell? ⟨blk,i*17+13,none⟩=some g:=a 13 (by decide);have ci14:W.cell? ⟨blk,i*17+14,none⟩=some h:=a 14 (by decide);have ci15:W.cell? ⟨blk,i*17+15,none⟩=some k:=a 15 (by decide);have ci16:W.cell? ⟨blk,i*17+16,none⟩=some l:=a 16 (by decide);have Z:W.cell? ⟨blk,j*17,none⟩=some (.int .i64 xj.time):=b 0 (by decide);have cj1:W.cell? ⟨blk,j*17+1,none⟩=some (.int .i64 xj.by_):=b 1 (by decide);have cj2:W.cell? ⟨blk,j*17+2,none⟩=some F:=b 2 (by decide);have cj3:W.cell? ⟨blk,j*17+3,none⟩=some G:=b 3 (by decide);have cj4:W.cell? ⟨blk,j*17+4,none⟩=some H:=b 4 (by decide);have cj5:W.cell? ⟨blk,j*17+5,none⟩=some I:=b 5 (by decide);have cj6:W.cell? ⟨blk,j*17+6,none⟩=some J:=b 6 (by decide);have cj7:W.cell? ⟨blk,j*17+7,none⟩=some K:=b 7 (by decide);have cj8:W.cell? ⟨blk,j*17+8,none⟩=some L:=b 8 (by decide);have cj9:W.cell? ⟨blk,j*17+9,none⟩=some M:=b 9 (by decide);have cj10:W.cell? ⟨blk,j*17+10,none⟩=some o:=b 10 (by decide);have cj11:W.cell? ⟨blk,j*17+11,none⟩=some p:=b 11 (by decide);have cj12:W.cell? ⟨blk,j*17+12,none⟩=some q:=b 12 (by decide);have cj13:W.cell? ⟨blk,j*17+13,none⟩=some r:=b 13 (by decide);have cj14:W.cell? ⟨blk,j*17+14,none⟩=some s:=b 14 (by decide);have cj15:W.cell? ⟨blk,j*17+15,none⟩=some t:=b 15 (by decide);have cj16:W.cell? ⟨blk,j*17+16,none⟩=some u:=b 16 (by decide);clear a b v w h1i h1j;have ho:=fun W'=>TD xi xj [x,y,z,A,B,C,D,E,c,d,f,g,h,k,l] [F,G,H,I,J,K,L,M,o,p,q,r,s,t,u] W'
 have mixed:=sl8.mixed;go_enter Tryz.func27,Tryz.ntmps27
 go_wp2
 go_still_tail 8,(by kernel_rfl)
 change wpList _ _ _ _ _ W.drew;clear O P Q R S T U V X Y ci10 ci11 ci12 ci13 ci14 ci15 ci16 Z cj1 cj2 cj3 cj4 cj5 cj6 cj7 cj8 cj9 cj10 cj11 cj12 cj13 cj14 cj15 cj16 N;go_wp2_with (go_at_call 28;refine (ho _).mono ?_;rintro e w' ⟨rfl,m,os,rfl⟩)
 go_ret
 exact⟨rfl,1+m,os,by rw[drew_eq_ahead,ahead_ahead]⟩
end Go.Proofs.YtngjomkjlonfpaaGreat
