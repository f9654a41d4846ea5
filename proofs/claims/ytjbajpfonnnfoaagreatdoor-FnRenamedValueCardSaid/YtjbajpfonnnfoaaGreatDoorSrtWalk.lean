import Derived.Test.YtjbajpfonnnfoaaGreatDoorWalkV
import Derived.ArgAppend
import Derived.Maps.AppendAt
import Derived.Deep.DeepAppendRoom
set_option linter.unusedSimpArgs false
set_option linter.unusedVariables false
/- The closures that the walk over the names of an expression is handed. -/
namespace Go.Proofs.YtjbajpfonnnfoaaGreatDoor
open Go.Abs Go.Proofs Go.RowKit
def VQ(ob fb tb:Nat)(_:World)(c:Nat):Prop:=c=ob\/c=fb\/c=tb
def Bj(x y:Str)(σ:List Ev):Bool:=σ.any λp=>p.1==x&&p.2.contains y
structure Lj(x y:Str)(ob fb tb:Nat)(σ:List Ev)(w:World):Prop where
 o:∃T,w.heap[ob]?=some (.cells #[.bool (Bj x y σ)] T (0,0))
 f:∃T,w.heap[fb]?=some (.cells #[.string ⟨x.toArray⟩] T (0,0))
 t:∃T,w.heap[tb]?=some (.cells #[.string ⟨y.toArray⟩] T (0,0))
 am:nT<=ob/\nT<=fb/\nT<=tb
set_option maxHeartbeats 4000000 in
set_option maxRecDepth 100000 in
theorem aie(x y:Str)(ob fb tb:Nat)(v:ob≠fb)(z:ob≠tb):Clo 107 #[.pointer (some ⟨ob,0,none⟩),.pointer (some ⟨fb,0,none⟩),.pointer (some ⟨tb,0,none⟩)] (Lj x y ob fb tb) (VQ ob fb tb) where
 enters:=enters_of Tryz.func107 (by kernel_rfl) rfl
 keep:=λw w' σ h hk r=>by
  refine⟨⟨?_,?_,?_,h.am⟩,λc hc=>hc⟩
  ·obtain⟨T,e⟩:=h.o;exact⟨T,(hk ob (.inl rfl)).trans e⟩
  ·obtain⟨T,e⟩:=h.f;exact⟨T,(hk fb (.inr (.inl rfl))).trans e⟩
  ·obtain⟨T,e⟩:=h.t;exact⟨T,(hk tb (.inr (.inr rfl))).trans e⟩
 lt:=λw σ c h hc=>by
  rcases hc with rfl | rfl | rfl
  ·obtain⟨T,e⟩:=h.o;exact⟨h.am.1,(a6.1 e).1⟩
  ·obtain⟨T,e⟩:=h.f;exact⟨h.am.2.1,(a6.1 e).1⟩
  ·obtain⟨T,e⟩:=h.t;exact⟨h.am.2.2,(a6.1 e).1⟩
 call:=λw σ S name bound vb A d G j k B=>by
  obtain⟨s,g⟩:=d.o;obtain⟨C,l⟩:=d.f;obtain⟨D,m⟩:=d.t;have c1:=cell_of_one g;have c2:=cell_of_one l;have c3:=cell_of_one m;have u:=free_of_one g;have hol:=(a6.1 g).1;have hcall:=Eg bound y S vb j w A k (λb o r=>(B b o r).1) w (Below.refl _ _);have hcap:Bj x y (σ++[(name,bound)])=(Bj x y σ||(name==x&&decide (0<=posOf y 0 bound))):=by
   unfold Bj;rw[List.any_append];have:bound.contains y=decide (0<=posOf y 0 bound):=by
    by_cases hp:0<=posOf y 0 bound
    ·have:=(not_congr (qV y bound 0)).1 (by omega);simp[hp];simpa using this
    ·have:=(qV y bound 0).1 (by omega);simp[hp];simpa using this
   simp only[List.any_cons,List.any_nil,Bool.or_false,this]
  generalize E:Bj x y σ=n at c1 g hcap;have fin:∀(w':World) (b:Bool),b=Bj x y (σ++[(name,bound)])->Below w.heap.size w w'->Lj x y ob fb tb (σ++[(name,bound)]) (w'.setCell ⟨ob,0,none⟩ (.bool b))/\eu (VQ ob fb tb) w (w'.setCell ⟨ob,0,none⟩ (.bool b)):=by
   intro w' b F a;subst F;have e1':w'.heap[ob]?=some (.cells #[.bool n] s (0,0)):=(a.block ob hol).trans g;have e2':=(a.block fb (a6.1 l).1).trans l;have e3':=(a.block tb (a6.1 m).1).trans m;refine⟨⟨⟨s,one_setCell e1'⟩,⟨C,?_⟩,⟨D,?_⟩,d.am⟩,a.os,a.tape,a.output,?_,λc hc i=>?_,λc hc=>.inl hc⟩
   ·rw[Below.heap_setCell _ _ _ _ (Ne.symm v)];exact e2'
   ·rw[Below.heap_setCell _ _ _ _ (Ne.symm z)];exact e3'
   ·have:=a.size;simp[World.setCell];omega
   ·rw[Below.heap_setCell _ _ _ _ (λh=>i (.inl h))];exact a.block c hc
  have HF:Hid ((∀(w':World) (b:Bool),b=Bj x y (σ++[(name,bound)])->Below w.heap.size w w'->Lj x y ob fb tb (σ++[(name,bound)]) (w'.setCell ⟨ob,0,none⟩ (.bool b))/\eu (VQ ob fb tb) w (w'.setCell ⟨ob,0,none⟩ (.bool b)))/\Bj x y (σ++[(name,bound)])=(n||(name==x&&decide (0<=posOf y 0 bound)))):=⟨fin,hcap⟩;clear fin hcap d;show Calls _ _ #[.string ⟨name.toArray⟩,vb,.pointer (some ⟨ob,0,none⟩),.pointer (some ⟨fb,0,none⟩),.pointer (some ⟨tb,0,none⟩)] _ _
  cases n with
  | true=>
   go_enter Tryz.func107,Tryz.ntmps107
   go_wp2
   refine bodyPost_end (results_none rfl _ _ _) rfl ?_;exact⟨rfl,HF.out.1 w true (by rw[HF.out.2];rfl) (Below.refl _ _)⟩
  | false=>
   by_cases i:name=x
   ·subst i;go_enter Tryz.func107,Tryz.ntmps107
    go_wp2_with (go_at_call 108;refine hcall.mono ?_;rintro e w2 ⟨rfl,a⟩;have c1':=(a.cell (p:=⟨ob,0,none⟩) hol).trans c1;have f1':=(a.frozen (p:=⟨ob,0,none⟩) hol).trans u;have HB:Hid (Below w.heap.size w w2):=a;clear a c1 u)
    refine bodyPost_end (results_none rfl _ _ _) rfl ?_;exact⟨rfl,HF.out.1 w2 _ (by rw[HF.out.2];simp) HB.out⟩
   ·go_enter Tryz.func107,Tryz.ntmps107
    have q:(name==x)=false:=by simpa using i
    go_wp2
    refine bodyPost_end (results_none rfl _ _ _) rfl ?_;exact⟨rfl,HF.out.1 w false (by rw[HF.out.2,q];rfl) (Below.refl _ _)⟩
theorem alE(w:World)(d a o2 b c:Obj):Below w.heap.size w (((((w.alloc d).alloc a).alloc o2).alloc b).alloc c)/\(((((w.alloc d).alloc a).alloc o2).alloc b).alloc c).heap.size=w.heap.size+5 /\
  (((((w.alloc d).alloc a).alloc o2).alloc b).alloc c).heap[w.heap.size+1]?=some a/\(((((w.alloc d).alloc a).alloc o2).alloc b).alloc c).heap[w.heap.size+1+1]?=some o2 /\
  (((((w.alloc d).alloc a).alloc o2).alloc b).alloc c).heap[w.heap.size+1+1+1]?=some b/\(((((w.alloc d).alloc a).alloc o2).alloc b).alloc c).heap[w.heap.size+1+1+1+1]?=some c:=by
 refine⟨⟨rfl,rfl,rfl,?_,λk hk=>?_⟩,?_,?_,?_,?_,?_⟩
 ·show _<=(((((w.heap.push d).push a).push o2).push b).push c).size
  simp;omega
 ·show (((((w.heap.push d).push a).push o2).push b).push c)[k]?=_
  simp only[Array.getElem?_push,Array.size_push];rw[if_neg (by omega),if_neg (by omega),if_neg (by omega),if_neg (by omega),if_neg (by omega)]
 ·show (((((w.heap.push d).push a).push o2).push b).push c).size=_
  simp
 ·show (((((w.heap.push d).push a).push o2).push b).push c)[w.heap.size+1]?=_
  rw[Array.getElem?_push,if_neg (by simp only[Array.size_push];omega),Array.getElem?_push,if_neg (by simp only[Array.size_push];omega),Array.getElem?_push,if_neg (by simp only[Array.size_push];omega),Array.getElem?_push,if_pos (by simp only[Array.size_push])]
 ·show (((((w.heap.push d).push a).push o2).push b).push c)[w.heap.size+1+1]?=_
  rw[Array.getElem?_push,if_neg (by simp only[Array.size_push];omega),Array.getElem?_push,if_neg (by simp only[Array.size_push];omega),Array.getElem?_push,if_pos (by simp only[Array.size_push])]
 ·show (((((w.heap.push d).push a).push o2).push b).push c)[w.heap.size+1+1+1]?=_
  rw[Array.getElem?_push,if_neg (by simp only[Array.size_push];omega),Array.getElem?_push,if_pos (by simp only[Array.size_push])]
 ·show (((((w.heap.push d).push a).push o2).push b).push c)[w.heap.size+1+1+1+1]?=_
  rw[Array.getElem?_push,if_pos (by simp only[Array.size_push])]
theorem PD(e:ak)(x y:Str)(es:List Ev)(w:World)(S:Nat->Nat->Prop)(va:Value)(h:jA (siz e+1) e []=some es)(t:es.length<=34359738368)(q:amb w)(g:Rep w S (.list (.base .expr) e.args) va)(i:∀b o,S b o->b<w.heap.size)(j:Obj)(l m p d:TypeId) :
  Calls Tryz.prog 109 #[.pointer (some ⟨w.heap.size+1+1+1+1,0,none⟩),.agg #[.int .i64 e.kind,.int .i64 e.n,.string ⟨e.text.toArray⟩,va],.slice none 0 0]
   (((((w.alloc j).alloc (.cells #[.string ⟨x.toArray⟩] l (0,0))).alloc (.cells #[.string ⟨y.toArray⟩] m (0,0))).alloc (.cells #[.bool false] p (0,0))).alloc (.cells #[.func (.func 107) #[] #[.pointer (some ⟨w.heap.size+1+1+1,0,none⟩),.pointer (some ⟨w.heap.size+1,0,none⟩),.pointer (some ⟨w.heap.size+1+1,0,none⟩)],.nilFunc] d (0,0)))
   λr w'=>r=.returned (.tuple #[])/\w'.cell? ⟨w.heap.size+1+1+1,0,none⟩=some (.bool (Bj x y es))/\Below w.heap.size w w':=by
 obtain⟨f,u,v,z,A,B⟩:=alE w j (.cells #[.string ⟨x.toArray⟩] l (0,0)) (.cells #[.string ⟨y.toArray⟩] m (0,0)) (.cells #[.bool false] p (0,0)) (.cells #[.func (.func 107) #[] #[.pointer (some ⟨w.heap.size+1+1+1,0,none⟩),.pointer (some ⟨w.heap.size+1,0,none⟩),.pointer (some ⟨w.heap.size+1+1,0,none⟩)],.nilFunc] d (0,0));generalize (((((w.alloc j).alloc (.cells #[.string ⟨x.toArray⟩] l (0,0))).alloc (.cells #[.string ⟨y.toArray⟩] m (0,0))).alloc (.cells #[.bool false] p (0,0))).alloc (.cells #[.func (.func 107) #[] #[.pointer (some ⟨w.heap.size+1+1+1,0,none⟩),.pointer (some ⟨w.heap.size+1,0,none⟩),.pointer (some ⟨w.heap.size+1+1,0,none⟩)],.nilFunc] d (0,0)))=W at *;have C:=q.size;have D:Lj x y (w.heap.size+1+1+1) (w.heap.size+1) (w.heap.size+1+1) [] W:=⟨⟨_,A⟩,⟨_,v⟩,⟨_,z⟩,by omega,by omega,by omega⟩;have s:∀b,b<w.heap.size->¬VQ (w.heap.size+1+1+1) (w.heap.size+1) (w.heap.size+1+1) W b:=by
  rintro b G (h | h | h)<;>omega
 refine ((Lr (aie x y (w.heap.size+1+1+1) (w.heap.size+1) (w.heap.size+1+1) (by omega) (by omega)) (siz e+1)) e [] es [] W S va (.slice none 0 0) (w.heap.size+1+1+1+1) d h (amb.keep q f.size λk hk=>f.block k (aL hk C)) D (by simpa using t) B (by rintro (h | h | h)<;>omega)
  (g.move λb o a=>⟨a,f.cell (i b o a)⟩) (.nil _) (λb o a=>⟨by have:=i b o a;omega,s b (i b o a)⟩)).mono ?_
 rintro r w' ⟨rfl,E,c⟩;obtain⟨T,F⟩:=E.o;refine⟨rfl,cell_of_one F,f.trans ⟨c.os,c.tape,c.output,c.size,λk hk=>c.block k (by omega) (s k hk)⟩⟩
set_option maxHeartbeats 4000000 in
set_option maxRecDepth 100000 in
theorem QY(e:ak)(x y:Str)(es:List Ev)(w:World)(S:Nat->Nat->Prop)(vp:Option Addr)(vn vc:Nat)(h:jA (siz e+1) e []=some es)(g:es.length<=34359738368)(d:amb w)(a:Rep w S (.list (.base .expr) e.args) (.slice vp vn vc))(i:∀b o,S b o->b<w.heap.size) :
  Calls Tryz.prog 52 #[.agg #[.int .i64 e.kind,.int .i64 e.n,.string ⟨e.text.toArray⟩,.slice vp vn vc],.string ⟨x.toArray⟩,.string ⟨y.toArray⟩] w λr w'=>r=.returned (.bool (Bj x y es))/\Below w.heap.size w w':=by
 have c:=PD e x y es w S (.slice vp vn vc) h g d a i;clear h d a;go_enter Tryz.func52,Tryz.ntmps52
 go_wp2_with (go_at_call 109;refine (c _ _ _ _ _).mono ?_;rintro r w1 ⟨rfl,j,f⟩;have HB:Hid (Below w.heap.size w w1):=f;clear f)
 go_ret
 exact⟨rfl,HB.out⟩
theorem afZ{w:World}{S:Nat->Nat->Prop}{e:ak}{u:Value}(h:ShR (λ_ d u=>Rep w S d u) 0 ⟨true,.base .expr⟩ e u):∃vp vn vc,u=.agg #[.int .i64 e.kind,.int .i64 e.n,.string ⟨e.text.toArray⟩,.slice vp vn vc]/\Rep w S (.list (.base .expr) e.args) (.slice vp vn vc):=by
 obtain⟨vs,rfl,hc⟩:=h;have hc:aV (λ_ d u=>Rep w S d u) 0 [.int .i64 e.kind,.int .i64 e.n,.str e.text,.list (.base .expr) e.args] vs:=hc;rcases vs with _ | ⟨f,_ | ⟨g,_ | ⟨i,_ | ⟨j,_ | ⟨k,r⟩⟩⟩⟩⟩
 ·exact hc.elim
 ·exact hc.2.elim
 ·exact hc.2.2.elim
 ·exact hc.2.2.2.elim
 ·obtain⟨vp,vn,vc,rfl⟩:=wG hc.2.2.2.1;have a:=oV hc.1;have b:=oV hc.2.1;have c:=xY hc.2.2.1;subst a;subst b;subst c;exact⟨vp,vn,vc,rfl,hc.2.2.2.1⟩
 ·exact hc.2.2.2.2.elim
theorem Gq:Sound Tryz.prog QM:=by
 intro w S args x y h f a g;rcases args with _ | ⟨u,_ | ⟨i,_ | ⟨j,_ | ⟨o,r⟩⟩⟩⟩
 ·exact a.elim
 ·exact a.2.elim
 ·exact a.2.2.elim
 ·obtain⟨vp,vn,vc,rfl,b⟩:=afZ (e:=x.1) a.1;have c:=xY (show Rep w S (.str x.2.1) i from a.2.1.1);have d:=xY (show Rep w S (.str x.2.2) j from a.2.2.1);subst c;subst d;have h:kM x.1 x.2.1 x.2.2=some y:=h;unfold kM at h;obtain⟨es,k,h⟩:=zB.1 h;obtain⟨_,l,h⟩:=zB.1 h;have m:y=Bj x.2.1 x.2.2 es:=(a7 h).symm;refine (QY x.1 x.2.1 x.2.2 es w S vp vn vc k (lW l) f b g).mono ?_;rintro e w' ⟨rfl,n⟩;exact⟨_,rfl,n,by rw[m];exact Zv _⟩
 ·exact a.2.2.elim
