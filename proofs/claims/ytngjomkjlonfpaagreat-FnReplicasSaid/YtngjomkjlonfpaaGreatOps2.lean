import Derived.Test.YtngjomkjlonfpaaGreatDr1
import Derived.Test.YtngjomkjlonfpaaGreatTypes
import Derived.Sort.LotA
import Derived.Test.YtngjomkjlonfpaaGreatModels
import Derived.Test.YtngjomkjlonfpaaGreatHist1
import Derived.Test.YtngjomkjlonfpaaGreatPlain1
set_option linter.unusedSimpArgs false
set_option linter.unusedVariables false
/- Plain laws: drawn operations and logs; FnOps. -/
namespace Go.Proofs.YtngjomkjlonfpaaGreat
open Go.Abs Go.Proofs
theorem ajK(a:List GOp):∀s:Int,s<=a.foldl (fun s x=>if x.time>s then x.time else s) s/\(∀x,x∈a->x.time<=a.foldl (fun s x=>if x.time>s then x.time else s) s) /\
  ∀T,s<=T->(∀x,x∈a->x.time<=T)->a.foldl (fun s x=>if x.time>s then x.time else s) s<=T:=by
 induction a with
 | nil=>exact fun s=>⟨Int.le_refl _,fun x b=>(by cases b),fun T h _=>h⟩
 | cons y r ih=>
  intro s;obtain⟨e,c,d⟩:=ih (if y.time>s then y.time else s);have f:s<=(if y.time>s then y.time else s)/\y.time<=(if y.time>s then y.time else s):=by
   by_cases h:y.time>s
   ·rw[if_pos h];omega
   ·rw[if_neg h];omega
  rw[List.foldl_cons];refine⟨by omega,fun x b=>?_,fun T g b=>d T ?_ fun x h=>b x (ao _ h)⟩
  ·rcases a8.1 b with rfl | b
   ·omega
   ·exact c x b
  ·have:=b y aq;by_cases h:y.time>s
   ·rw[if_pos h];omega
   ·rw[if_neg h];omega
theorem Vx(n:Int):I64 (w64 n):=.int .i64 _ (by
 unfold Lit.wf w64;simp[IntKind.wrap,IntKind.bits,IntKind.signed,IntKind.min,IntKind.max];omega)
abbrev OpF(o:GOp):Prop:=Fit B20 (.base .op) o
theorem pG{o:GOp}:OpF o↔I64 o.time/\I64 o.by_/\I64 o.kind/\aX B20 (.list (.base .int) o.seen)/\afM o.edit/\aX B20 (.str o.src)/\aX B20 (.str o.dst)/\I64 o.cell/\I64 o.version/\aX B20 (.list (.base .read) o.reads):=by
 show Fit B20 (.base .op) _↔_
 rw[xP]
theorem I9{l:List Int}(c:l.length<=1000)(h:∀x,x∈l->I64 x):aX B20 (.list (.base .int) l):=
 dY (by omega) fun x a d b=>by
  have:d=.int .i64 x:=by simpa [Ty.cells,Base.cells] using b
  rw[this];exact h x a
theorem Zl{l:List Int}(h:aX B20 (.list (.base .int) l)):∀x,x∈l->I64 x:=fun x a=>h.aZ x a _ (by simp[Ty.cells,Base.cells])
structure OpD(T:Int)(o:GOp):Prop where
 fit:OpF o
 t0:0<=o.time
 t1:o.time<=T
 seen:o.seen.length=3
 rd:o.reads.length<=1000
theorem alZ{n:Nat}(h:n<6):∃s,idx ([[],[97],[98],[99],[100],[101]]:List Str) ((n:Nat):Int)=some s/\s.length<=1/\([[],[97],[98],[99],[100],[101]]:List Str)[n]?=some s:=by
 obtain⟨s,b,_,a⟩:=Ai (xs:=([[],[97],[98],[99],[100],[101]]:List Str)) (n:=n) h;refine⟨s,b,?_,a⟩;have:=zG a;simp at this;rcases this with rfl | rfl | rfl | rfl | rfl | rfl<;>simp
theorem afw{c:bC}(h:dB c):Dr (Hu c) afM:=by
 unfold Hu;refine Dr.bind (qG h _ (by simp)) fun v k e f=>Dr.bind (dJ e 4) fun w q g b=>Dr.bind (dJ g 5) fun i n j d=>?_
 have y:1<=k/\k<=6:=by
  simp at f;omega
 have z:=b.2 (by omega);have l:=b.1;have A:=d.2 (by omega);have m:=d.1;have w1:w64 (1+n)=1+n:=bM (by omega) (by omega);show Dr ((Cf i (w64 (1+n))).bind _) afM
 rw[w1];refine Dr.bind (aj2 j (1+n) (by omega) (by omega)) fun B x k4 px=>?_
 obtain⟨s,o,ls,p⟩:=alZ (n:=(1+n).toNat) (by omega);have a:x.id=((1+n).toNat:Nat):=by rw[px.id];omega
 have fx:=afC.1 px.fit;have fs:aX B20 (.str s):=FC (by omega);have ik:I64 k:=i64 (by omega) (by omega);have iq:I64 q:=i64 (by omega) (by omega);show Dr ((idx ([[],[97],[98],[99],[100],[101]]:List Str) x.id).bind _) afM
 rw[a,o,zA,aw,p,zA];refine Dr.bif (fun _=>?_) fun _=>.ret k4 (adU ik iq (Jz.2 ⟨by rw[<- a];exact fx.1,fx.2.1,fx.2.2.1,fs,fx.2.2.2.2.1,fx.2.2.2.2.2⟩))
 have r:I64 2:=i64 (by omega) (by omega);refine Dr.bind (U2 k4) fun C t u lt=>?_
 have ft:aX B20 (.str t):=FC (by omega);exact .ret u (adU ik iq (Jz.2 ⟨by rw[<- a];exact fx.1,fx.2.1,r,fs,ft,fx.2.2.2.2.2⟩))
theorem KE{c:bC}(h:dB c)(b:List GOp)(hl:b.length<=1000)(T:Int)(W:0<=T)(hT:T<=1000000)(X:∀x,x∈b->x.time<=T)(by_:Int)(Y:0<=by_)(hy:by_<=1000):Dr (rH c b by_) (OpD (T+2)):=by
 unfold rH;have A:b.length<lim:=by show b.length<4611686018427387904;omega
 have lt:=EW b A;obtain⟨f1,f2,S⟩:=ajK b 0;have S:=S T W X;generalize b.foldl (fun s x=>if x.time>s then x.time else s) 0=v at *;rw[lt,zA];refine Dr.bind (dJ h 2) fun c2 q Z U=>Dr.bind (afw Z) fun H e k3 fe=>?_
 have hq:=U.2 (by omega);have hq0:=U.1;have w1:w64 (v+1)=v+1:=bM (by omega) (by omega);have w2:w64 (v+1+q)=v+1+q:=bM (by omega) (by omega);have it:I64 (v+1+q):=i64 (by omega) (by omega);have iy:I64 by_:=i64 (by omega) (by omega);simp only[w1,w2];have no:afM (dM.mk 0 0 (ah.mk 0 0 0 [] [] 0)):=adU (i64 (by omega) (by omega)) (i64 (by omega) (by omega)) (Jz.2 ⟨i64 (by omega) (by omega),i64 (by omega) (by omega),i64 (by omega) (by omega),FC (by simp),FC (by simp),i64 (by omega) (by omega)⟩);have o0:I64 0:=i64 (by omega) (by omega);have os:aX B20 (.str []):=FC (by simp);have orr:aX B20 (.list (.base .read) []):=ahc;have g:0<=v+1+q:=by omega
 have j:v+1+q<=T+2:=by omega
 have o1:I64 1:=i64 (by omega) (by omega);have o2:I64 2:=i64 (by omega) (by omega);have o3:I64 3:=i64 (by omega) (by omega);generalize v+1+q=t at *;refine Dr.of (mF (fun (s:List Int) (i:Nat)=>((H.b,H.i,H.h,b,0,0,0,[],0,0,0,0,0,[],[],0,[],[],0,0,[],t,by_,1,s,e.kind,e.pos,e.cell.id,e.cell.version,e.cell.kind,e.cell.name,e.cell.code,e.cell.n,[],[],0,0,[],(i:Int)):(List Int)×Int×Int×(List GOp)×Int×Int×Int×(List Int)×Int×Int×Int×Int×Int×Str×Str×Int×Str×Str×Int×Int×(List aN)×Int×Int×Int×(List Int)×Int×Int×Int×Int×Int×Str×Str×Int×Str×Str×Int×Int×(List aN)×Int)) 3
  (fun i s=>s.length=i/\∀x,x∈s->I64 x) (fun (r:bC×GOp)=>dB r.1/\OpD (T+2) r.2) (fun i s hi J=>?_) (fun s J=>?_) [] ⟨rfl,fun x k=>(by cases k)⟩)
 ·obtain⟨f,m⟩:=J;obtain⟨w,ew,hw⟩:=sW b (i:Int) A;have K:decide ((i:Int)<3)=true:=by simp;omega
  have L:w64 ((i:Int)+1)=((i+1:Nat):Int):=by rw[bM (by omega) (by omega)];omega
  refine⟨s++[w],?_,by simp[f],fun x k=>?_⟩
  ·simp only[K,ab,ew,zA,bD (show s.length+[w].length<=34359738368 by simp;omega),L]
  ·rcases List.mem_append.1 k with k | k
   ·exact m x k
   ·rw[List.mem_singleton.1 k];rcases hw with rfl | ⟨n,rfl⟩
    ·exact o0
    ·exact Vx n
 ·obtain⟨f,m⟩:=J;have fs:aX B20 (.list (.base .int) s):=I9 (by omega) m;have K:decide (((3:Nat):Int)<3)=false:=rfl;simp only[K,aa];have key:Dr ((aU H 8).bind fun p=>
   bif (p.2==0)then
    (dH p.1 ([[97],[98],[99]]:List Str)).bind fun B=>
    (dH B.1 ([[120],[121],[116,111,116,97,108]]:List Str)).bind fun C=>
    some (C.1,GOp.mk t by_ 2 s (dM.mk 0 0 (ah.mk 0 0 0 [] [] 0)) B.2 C.2 0 0 [])
   else
   bif (p.2==1)then
    (dH p.1 ([[97],[98],[99]]:List Str)).bind fun V=>
    (dH V.1 ([[120],[121],[116,111,116,97,108]]:List Str)).bind fun D=>
    some (D.1,GOp.mk t by_ 2 s (dM.mk 0 0 (ah.mk 0 0 0 [] [] 0)) V.2 D.2 0 0 [])
   else
    bif (p.2==2)then
     (aU p.1 5).bind fun E=>
     (aU E.1 20).bind fun F=>
     (Ci F.1).bind fun G=>
     some (G.1,GOp.mk t by_ 3 s (dM.mk 0 0 (ah.mk 0 0 0 [] [] 0)) [] [] (w64 (1+E.2)) (w64 (3+F.2)) G.2)
    else
     some (p.1,GOp.mk t by_ 1 s (dM.mk e.kind e.pos (ah.mk e.cell.id e.cell.version e.cell.kind e.cell.name e.cell.code e.cell.n)) [] [] 0 0 [])) (OpD (T+2)):=by
   have ren:∀u,dB u->Dr ((dH u ([[97],[98],[99]]:List Str)).bind fun B=>
     (dH B.1 ([[120],[121],[116,111,116,97,108]]:List Str)).bind fun C=>
     some (C.1,GOp.mk t by_ 2 s (dM.mk 0 0 (ah.mk 0 0 0 [] [] 0)) B.2 C.2 0 0 [])) (OpD (T+2)):=fun u z=>by
    refine Dr.bind (iF z _ (by simp)) fun c7 a M N=>Dr.bind (iF M _ (by simp)) fun c8 d O Q=>.ret O ⟨pG.2 ⟨it,iy,o2,fs,no,FC ?_,FC ?_,o0,o0,orr⟩,g,j,f,by simp⟩
    ·simp at N;rcases N with rfl | rfl | rfl<;>simp
    ·simp at Q;rcases Q with rfl | rfl | rfl<;>simp
   refine Dr.bind (dJ k3 8) fun u n z _=>Dr.bif (fun _=>ren u z) fun _=>Dr.bif (fun _=>ren u z) fun _=>Dr.bif (fun _=>?_) fun _=>?_
   ·refine Dr.bind (dJ z 5) fun c7 x M N=>Dr.bind (dJ M 20) fun c8 y O Q=>?_
    obtain⟨I,l,R,k9,fl,ll⟩:=aeb O;refine Dr.bind (P:=fun l=>aX B20 (.list (.base .read) l)/\l.length<=1000) ⟨I,l,R,k9,fl,by omega⟩ fun I l k9 fl=>.ret k9 ⟨pG.2 ⟨it,iy,o3,fs,no,os,os,Vx _,Vx _,fl.1⟩,g,j,f,fl.2⟩
   ·exact .ret z ⟨pG.2 ⟨it,iy,o1,fs,fe,os,os,o0,o0,orr⟩,g,j,f,by simp⟩
  obtain⟨I,o,R,k9,po⟩:=key;refine⟨(I,o),?_,k9,po⟩;rw[R];rfl
theorem ex1{ρ:Type}{z:Option ρ}(h:∃r,z=some r/\True):∃r,z=some r:=by
 obtain⟨r,e,_⟩:=h;exact⟨r,e⟩
theorem agS(a:List GOp)(b:GOp)(h:a.length<lim):∃r,lC a b=some r:=by
 unfold lC;refine ex1 (jD (fun (_:Unit) (i:Nat)=>((a,b.time,b.by_,b.kind,b.seen,b.edit.kind,b.edit.pos,b.edit.cell.id,b.edit.cell.version,b.edit.cell.kind,b.edit.cell.name,b.edit.cell.code,b.edit.cell.n,b.src,b.dst,b.cell,b.version,b.reads,(i:Int)):(List GOp)×Int×Int×Int×(List Int)×Int×Int×Int×Int×Int×Str×Str×Int×Str×Str×Int×Int×(List aN)×Int)) a (fun _ _=>True) (fun _=>True) (fun i x s c d=>?_) (fun s d=>?_) () trivial)
 ·simp only[dec_lt c,ab,au,c,zA,dX c h];cases (x.time==b.time)with
  | false=>exact .inl ⟨(),rfl,trivial⟩
  | true=>cases (x.by_==b.by_)with
   | false=>exact .inl ⟨(),rfl,trivial⟩
   | true=>exact .inr ⟨_,rfl,trivial⟩
 ·exact⟨_,by simp only[aV,aa];rfl,trivial⟩
theorem Zb(a b:List GOp)(C:a.length<=100)(D:b.length<=100)(P:GOp->Prop)(z:∀x,P x->OpF x)(pa:∀x,x∈a->P x)(pb:∀x,x∈b->P x) :
  ∃w,mM a b=some w/\w.length<=a.length+b.length/\∀x,x∈w->P x:=by
 unfold mM;rw[bD (by omega),zA,bD (by simp;omega),zA,List.nil_append];have hall:(a++b).length<=200:=by rw[aR];omega
 have pall:∀x,x∈a++b->P x:=fun x f=>by
  rcases List.mem_append.1 f with f | f
  ·exact pa x f
  ·exact pb x f
 rw[<- aR];generalize a++b=all at *;have l:all.length<lim:=by show all.length<4611686018427387904;omega
 refine jD (fun (s:List GOp) (i:Nat)=>((s,all,(i:Int)):(List GOp)×(List GOp)×Int)) all (fun i s=>s.length<=i/\∀x,x∈s->P x) (fun (w:List GOp)=>w.length<=all.length/\∀x,x∈w->P x) (fun i y s k q=>.inl ?_) (fun s q=>?_) [] ⟨ar _,fun x f=>(by cases f)⟩
 ·obtain⟨E,ps⟩:=q;have hi:=(zC.1 k).1;have py:=pall y (zG k);obtain⟨r,er⟩:=agS s y (by show s.length<4611686018427387904;omega);simp only[dec_lt k,ab,au,k,aw,zA,er,dX k l];cases decide (r>=0)with
  | true=>exact⟨s,rfl,by omega,ps⟩
  | false=>
   have put:∀j:Nat,j<=s.length->((cutAt s (j:Int)).bind fun d=>
         ((if (j:Int)=(d:Int)then some ()else none)).bind fun _=>
         (gd (0+(s.take d).length)).bind fun _=>
         (idx all (i:Int)).bind fun _=>
         (all[(i:Int).toNat]?).bind fun m=>
         (kW m).bind fun h=>
         (gd (([]++(s.take d)).length+[h].length)).bind fun _=>
         ((if (j:Int)=(d:Int)then some ()else none)).bind fun _=>
         (gd ((([]++(s.take d))++[h]).length+(s.drop d).length)).bind fun _=>
         some ((.inl ((([]++(s.take d))++[h])++(s.drop d),all,((i+1:Nat):Int))):((List GOp)×(List GOp)×Int)⊕(List GOp)))=some (.inl (s.take j++[y]++s.drop j,all,((i+1:Nat):Int))):=fun j t=>by
    simp only[ZV s j t,eq_self_iff_true,if_true,zA,au,k,aw,rJ y (z y py)];rw[bD (by simp;omega),zA,bD (by simp;omega),zA,bD (by simp;omega),zA];rfl
   have good:∀j:Nat,j<=s.length->∃s',(s.take j++[y]++s.drop j)=s'/\s'.length<=i+1/\∀x,x∈s'->P x:=fun j t=>⟨_,rfl,by simp;omega,fun x f=>by
    simp only[List.mem_append,List.mem_singleton]at f;rcases f with (f | rfl) | f
    ·exact ps x (List.mem_of_mem_take f)
    ·exact py
    ·exact ps x (List.mem_of_mem_drop f)⟩
   simp only[aa];have inner:∃r,aA (fun (c:(List GOp)×(List GOp)×Int×Int)=>
    bif (decide (c.2.2.2<(c.1.length:Int)))then
     (idx c.1 c.2.2.2).bind fun _=>
     (c.1[c.2.2.2.toNat]?).bind fun A=>
     (idx c.2.1 c.2.2.1).bind fun _=>
     (c.2.1[c.2.2.1.toNat]?).bind fun B=>
     (oJ A B).bind fun u=>
     bif u then
      some (.inl (c.1,c.2.1,c.2.2.1,w64 (c.2.2.2+1)))
     else
     (
      (cutAt c.1 c.2.2.2).bind fun d=>
      ((if c.2.2.2=(d:Int)then some ()else none)).bind fun _=>
      (gd (0+(c.1.take d).length)).bind fun _=>
      (idx c.2.1 c.2.2.1).bind fun _=>
      (c.2.1[c.2.2.1.toNat]?).bind fun m=>
      (kW m).bind fun h=>
      (gd (([]++(c.1.take d)).length+[h].length)).bind fun _=>
      ((if c.2.2.2=(d:Int)then some ()else none)).bind fun _=>
      (gd ((([]++(c.1.take d))++[h]).length+(c.1.drop d).length)).bind fun _=>
      some ((.inl ((([]++(c.1.take d))++[h])++(c.1.drop d),c.2.1,w64 (c.2.2.1+1))):((List GOp)×(List GOp)×Int)⊕(List GOp))
     ).bind fun r=>some (.inr r)
    else
    (
     (cutAt c.1 c.2.2.2).bind fun g=>
     ((if c.2.2.2=(g:Int)then some ()else none)).bind fun _=>
     (gd (0+(c.1.take g).length)).bind fun _=>
     (idx c.2.1 c.2.2.1).bind fun _=>
     (c.2.1[c.2.2.1.toNat]?).bind fun v=>
     (kW v).bind fun n=>
     (gd (([]++(c.1.take g)).length+[n].length)).bind fun _=>
     ((if c.2.2.2=(g:Int)then some ()else none)).bind fun _=>
     (gd ((([]++(c.1.take g))++[n]).length+(c.1.drop g).length)).bind fun _=>
     some (.inl ((([]++(c.1.take g))++[n])++(c.1.drop g),c.2.1,w64 (c.2.2.1+1)))
    ).bind fun r=>some (.inr r)
   ) (s,all,(i:Int),0)=some r/\∃s',r=.inl (s',all,((i+1:Nat):Int))/\s'.length<=i+1/\∀x,x∈s'->P x:=by
    refine jD (fun (_:Unit) (j:Nat)=>((s,all,(i:Int),(j:Int)):(List GOp)×(List GOp)×Int×Int)) s (fun _ _=>True)
     (fun (r:((List GOp)×(List GOp)×Int)⊕(List GOp))=>∃s':List GOp,r=.inl (s',all,((i+1:Nat):Int))/\s'.length<=i+1/\∀x,x∈s'->P x) (fun j x _ f _=>?_) (fun _ _=>?_) () trivial
    ·have t:=(zC.1 f).1;obtain⟨s',e',o,p⟩:=good j (by omega);have pj:=put j (by omega);simp only[dec_lt f,ab,sS,dX f (show s.length<4611686018427387904 by omega),dX k l];rw[pj];simp only[au,f,k,aw,zA];cases (decide (x.time<y.time)||((x.time==y.time)&&decide (x.by_<y.by_)))with
     | true=>exact .inl ⟨(),rfl,trivial⟩
     | false=>exact .inr ⟨_,rfl,s',by rw[e'],o,p⟩
    ·obtain⟨s',e',o,p⟩:=good s.length (ar _);have pj:=put s.length (ar _);simp only[aV,aa,dX k l];rw[pj];exact⟨_,rfl,s',by rw[e'],o,p⟩
   obtain⟨r,e,s',rfl,o,p⟩:=inner;exact⟨s',e,o,p⟩
 ·exact⟨s,by simp only[aV,aa],q⟩
theorem OpD.mono{T T':Int}{o:GOp}(h:OpD T o)(a:T<=T'):OpD T' o:=⟨h.fit,h.t0,by have:=h.t1;omega,h.seen,h.rd⟩
theorem ahl{c:bC}(h:dB c)(b:Int)(U:0<=b)(V:b<=20):Dr (N9 c b) fun l=>l.length<=b.toNat/\∀o,o∈l->OpD 100 o:=by
 unfold N9;have I:w64 (b+1)=b+1:=bM (by omega) (by omega);rw[I];refine Dr.bind (dJ h (b+1)) fun J n K G=>?_
 have W:=G.2 (by omega);obtain⟨m,rfl⟩:=xM G.1;refine Dr.of (mF (fun (z:bC×List GOp) (i:Nat)=>((z.1.b,z.1.i,z.1.h,z.2,(m:Int),(i:Int)):(List Int)×Int×Int×(List GOp)×Int×Int)) m
  (fun i z=>dB z.1/\z.2.length<=i/\∀o,o∈z.2->OpD (2*(i:Int)) o) (fun (r:bC×List GOp)=>dB r.1/\r.2.length<=b.toNat/\∀o,o∈r.2->OpD 100 o) (fun i z hi s=>?_) (fun z s=>?_) (J,[]) ⟨K,ar _,fun o f=>(by cases f)⟩)
 ·obtain⟨t,L,f⟩:=s;obtain⟨X,M,N,H⟩:=Eg t 2;have wl:w64 ((z.2.length:Int)+1)=((z.2.length+1:Nat):Int):=aiy (by omega);have fin:∀(e:bC) (known:List GOp) (by_:Int),dB e->known.length<=1000->(∀x,x∈known->x∈z.2)->0<=by_->by_<3->∃(d:bC) (o:GOp) (w:List GOp),rH e known by_=some (d,o)/\mM z.2 [o]=some w/\dB d/\w.length<=i+1/\∀o,o∈w->OpD (2*((i+1:Nat):Int)) o:=by
   intro e known by_ g O P u Q;obtain⟨d,o,j,k,po⟩:=KE g known O (2*(i:Int)) (by omega) (by omega) (fun x a=>(f x (P x a)).t1) by_ u (by omega);have po':OpD (2*((i+1:Nat):Int)) o:=po.mono (by omega);obtain⟨w,p,v,A⟩:=Zb z.2 [o] (by omega) (by simp) (OpD (2*((i+1:Nat):Int))) (fun x a=>a.fit) (fun x a=>(f x a).mono (by omega)) (fun x a=>by rw[List.mem_singleton.1 a];exact po');exact⟨d,o,w,j,p,k,by simp only[List.length_cons,List.length_nil]at v;omega,A⟩
  simp only[cnt_lt hi,ab,N,zA,wl];cases M with
  | true=>
   obtain⟨Y,q,R,k4,S,T⟩:=gZ H ((z.2.length+1:Nat):Int);have:=T (by omega);obtain⟨q,rfl⟩:=xM S;obtain⟨e,y,B,g,C,D⟩:=gZ k4 3;have:=D (by omega);obtain⟨d,o,w,j,p,k,E,F⟩:=fin e (z.2.take q) y g (by rw[a7];omega) (fun x a=>List.mem_of_mem_take a) C this;simp only[ab,R,zA,wZ z.2 q (by omega),B,j,p,Nr hi (show m<=1048576 by omega)];exact⟨(d,w),rfl,k,E,F⟩
  | false=>
   obtain⟨e,y,B,g,C,D⟩:=gZ H 3;have:=D (by omega);obtain⟨d,o,w,j,p,k,E,F⟩:=fin e z.2 y g (by omega) (fun x a=>a) C this;simp only[aa,zA,B,j,p,Nr hi (show m<=1048576 by omega)];exact⟨(d,w),rfl,k,E,F⟩
 ·obtain⟨t,L,f⟩:=s;exact⟨(z.1,z.2),by simp only[aV,aa],t,by show z.2.length<=_;omega,fun o h=>(f o h).mono (by omega)⟩
def OpR(o:GOp):Prop:=OpF o/\o.reads.length<=1000
theorem afG{c:bC}(h:dB c):Dr (Hw c) OpR:=by
 unfold Hw;refine Dr.bind (ahl h 3 (by omega) (by omega)) fun E l A w=>Dr.bind (dJ A 3) fun F y B z=>?_
 have G:l.length<=3:=w.1;have H:=z.2 (by omega);refine Dr.bind (KE B l (by omega) 100 (by omega) (by omega) (fun x b=>(w.2 x b).t1) y z.1 (by show y<=1000;omega)) fun I o C po=>Dr.bind (dJ C 10) fun J q k4 K=>?_
 obtain⟨m,p,r,f,g,i,s,j,k,a⟩:=pG.1 po.fit;refine Dr.bif (fun _=>?_) fun _=>Dr.bif (fun _=>?_) fun _=>Dr.bif (fun _=>?_) fun _=>Dr.bif (fun _=>?_) fun _=>Dr.bif (fun _=>?_) fun _=>Dr.bif (fun _=>?_) fun _=>.ret k4 ⟨po.fit,po.rd⟩
 ·refine Dr.bind (qG k4 _ (by simp)) fun t n e d=>?_
  have on:I64 n:=by
   simp at d;exact i64 (by omega) (by omega)
  exact .ret e ⟨pG.2 ⟨on,p,r,f,g,i,s,j,k,a⟩,po.rd⟩
 ·refine Dr.bind (qG k4 _ (by simp)) fun t n e d=>?_
  have on:I64 n:=by
   simp at d;exact i64 (by omega) (by omega)
  exact .ret e ⟨pG.2 ⟨m,on,r,f,g,i,s,j,k,a⟩,po.rd⟩
 ·refine Dr.gd (by show o.seen.length+1<=_;rw[po.seen];omega) (.ret k4 ⟨pG.2 ⟨m,p,r,I9 (by show (o.seen++[0]).length<=_;rw[aR,po.seen];decide) fun x b=>?_,g,i,s,j,k,a⟩,po.rd⟩);rcases List.mem_append.1 b with b | b
  ·exact Zl f x b
  ·rw[List.mem_singleton.1 b];exact i64 (by omega) (by omega)
 ·refine Dr.bind (dJ k4 5) fun t n e d=>?_
  have on:I64 n:=i64 (by have:=d.1;omega) (by have:=d.2 (by omega);omega);exact .ret e ⟨pG.2 ⟨m,p,on,f,g,i,s,j,k,a⟩,po.rd⟩
 ·refine Dr.bind (qG k4 _ (by simp)) fun t n e d=>?_
  obtain⟨v,u,_,D⟩:=Ai (xs:=o.seen) (n:=0) (by rw[po.seen];omega);have u:idx o.seen 0=some v:=u;show Dr ((idx o.seen 0).bind _) OpR
  rw[u,zA,D,zA];refine .ret e ⟨pG.2 ⟨m,p,r,I9 (by show (o.seen.set 0 n).length<=_;rw[List.length_set,po.seen];omega) fun x b=>?_,g,i,s,j,k,a⟩,po.rd⟩;rcases mem_set b with b | rfl
  ·exact Zl f x b
  ·simp at d;exact i64 (by omega) (by omega)
 ·exact .ret k4 ⟨pG.2 ⟨m,p,r,f,g,i,FC (by simp),j,k,a⟩,po.rd⟩
theorem Y1{x:GOp}(h:opB x=true):(1<=x.time/\x.time<=300)/\0<=x.by_/\x.by_<=2:=by
 unfold opB nY at h;rw[fG,fG]at h;simp only[zA]at h;by_cases a:(decide (1<=x.time)&&decide (x.time<=300))=true
 ·rw[a]at h;simp only[aE,aa]at h;by_cases b:(decide (0<=x.by_)&&decide (x.by_<=2))=true
  ·exact⟨by simpa using a,by simpa using b⟩
  ·have q2':(decide (0<=x.by_)&&decide (x.by_<=2))=false:=by simpa using b
   rw[q2']at h;simp at h
 ·have q1':(decide (1<=x.time)&&decide (x.time<=300))=false:=by simpa using a
  rw[q1']at h;simp at h
def lu(l:List GOp)(k:Int):Nat:=(l.filter fun x=>x.by_==k).length
theorem Nc(a:List GOp)(b:Int)(h:(a.length:Int)<=1048576):rX a b=some (lu a b:Int):=by
 unfold rX;refine ajs (fun (s:Int) (i:Nat)=>((b,s,a,(a.length:Int),(i:Int)):Int×Int×(List GOp)×Int×Int)) a (fun i s=>s=(lu (a.take i) b:Int)) (lu a b:Int) (fun i x s c e=>.inl ?_) (fun s e=>?_) 0 rfl
 ·have hi:=(zC.1 c).1;have g:lu (a.take i) b<=i:=by
   unfold lu;have:=List.length_filter_le (fun x:GOp=>x.by_==b) (a.take i);rw[a7]at this;omega
  have j:w64 ((lu (a.take i) b:Int)+1)=(lu (a.take i) b:Int)+1:=bM (by omega) (by omega);have d:lu (a.take (i+1)) b=lu (a.take i) b+(if x.by_==b then 1 else 0):=by
   unfold lu;rw[take_snoc c,List.filter_append,aR];cases f:(x.by_==b)<;>simp[f]
  subst e;simp only[dec_lt c,ab,au,c,zA,dX c (fD h),j];cases f:(x.by_==b)with
  | true=>exact⟨_,rfl,by rw[d,f];simp⟩
  | false=>exact⟨_,rfl,by rw[d,f];simp⟩
 ·rw[List.take_length]at e;exact⟨s,by simp only[aV,aa],e⟩
end Go.Proofs.YtngjomkjlonfpaaGreat
/- The order of operations: by time, then by replica. -/
namespace Go.Proofs.YtngjomkjlonfpaaGreat
open Go.Abs Go.Proofs Go.Sort
def iG(a b:GOp):Bool:=decide (a.time<b.time)||(a.time==b.time&&decide (a.by_<b.by_))
def jl(a b:GOp):Bool:=a.time==b.time&&a.by_==b.by_
theorem kU:SWO iG where
 irrefl:=fun x=>by simp[iG]
 trans:=fun x y z a b=>by
  simp only[iG,Bool.or_eq_true,zI,decide_eq_true_eq,beq_iff_eq]at *;omega
 ntrans:=fun x y z a b=>by
  simp only[iG,Bool.or_eq_false_iff,Bool.and_eq_false_iff,decide_eq_false_iff_not,beq_eq_false_iff_ne]at *;omega
theorem UM:∀a b:GOp,iG a b=true->iG b a=true->False:=fun a b h c=>by
 have:=kU.trans _ _ _ h c;rw[kU.irrefl]at this;cases this
theorem ahi{x y:GOp}(h:iG x y=false)(a:jl x y=false):iG y x=true:=by
 simp only[iG,jl,Bool.or_eq_false_iff,Bool.or_eq_true,zI,Bool.and_eq_false_iff,decide_eq_false_iff_not,beq_eq_false_iff_ne,decide_eq_true_eq,beq_iff_eq]at *;omega
end Go.Proofs.YtngjomkjlonfpaaGreat
/- The program's order of operations is the plain one. -/
namespace Go.Proofs.YtngjomkjlonfpaaGreat
open Go.Abs Go.Proofs
theorem Xn(a b:GOp):qL a b=some (iG a b):=by
 unfold qL iG;by_cases h:a.time<b.time
 ·simp[h]
 ·rw[ac h];by_cases c:a.time=b.time
  ·simp[c]
  ·have e:(a.time==b.time)=false:=by simpa using c
   simp[e]
theorem A7:o6=fun xs=>(gd xs.length).bind fun _=>LG iG xs:=by
 have _:=@qM;funext xs;unfold o6;have e:(fun a b=>qL a b==some true)=iG:=by
  funext a b;rw[Xn];cases iG a b<;>rfl
 rw[e]
end Go.Proofs.YtngjomkjlonfpaaGreat
/- Plain laws: merged logs. -/
namespace Go.Proofs.YtngjomkjlonfpaaGreat
open Go.Abs Go.Proofs
def wM(y:GOp):List GOp->List GOp
 | []=>[y]
 | x::r=>bif iG x y then x::wM y r else y::x::r
theorem Qc(y:GOp):∀(s:List GOp) (j:Nat),j<=s.length->(∀x,x∈s.take j->iG x y=true)->(∀x,s[j]?=some x->iG x y=false)->s.take j++[y]++s.drop j=wM y s
 | [],j,_,_,_=>by simp[wM]
 | x::r,0,_,_,h=>by
  have:=h x rfl;simp[wM,this]
 | x::r,j+1,c,b,d=>by
  have e:=b x (by simp);have ih:=Qc y r j (by simpa using c) (fun z a=>b z (by simp[a])) (fun z a=>d z (by simpa using a));simp only[wM,e,ab,List.take_succ_cons,List.drop_succ_cons,List.cons_append];rw[<- ih]
theorem zW(y:GOp):∀s:List GOp,(wM y s).Perm (y::s)
 | []=>.refl _
 | x::r=>by
  cases h:iG x y with
  | true=>simp only[wM,h,ab];exact ((zW y r).cons x).trans (.swap _ _ _)
  | false=>simp only[wM,h,aa];exact .refl _
theorem Iw(y:GOp):∀s:List GOp,s.Pairwise (fun a b=>iG a b=true)->(∀x,x∈s->jl x y=false)->(wM y s).Pairwise (fun a b=>iG a b=true)
 | [],_,_=>List.pairwise_singleton _ _
 | x::r,h,g=>by
  have f:=List.pairwise_cons.1 h;cases e:iG x y with
  | true=>
   simp only[wM,e,ab];refine List.pairwise_cons.2 ⟨fun z c=>?_,Iw y r f.2 fun z c=>g z (by simp[c])⟩;rcases a8.1 ((zW y r).mem_iff.1 c)with rfl | c
   ·exact e
   ·exact f.1 z c
  | false=>
   simp only[wM,e,aa];have d:=ahi e (g x (by simp));refine List.pairwise_cons.2 ⟨fun z c=>?_,h⟩;rcases a8.1 c with rfl | c
   ·exact d
   ·exact kU.trans _ _ _ d (f.1 z c)
def EP(out:List GOp)(y:GOp):List GOp:=bif out.any (jl · y)then out else out++[y]
def Zq(out:List GOp)(y:GOp):List GOp:=bif out.any (jl · y)then out else wM y out
theorem agU{α:Type}{s t:List α}(h:s.Perm t)(p:α->Bool):s.any p=t.any p:=by
 cases e:t.any p with
 | true=>
  obtain⟨x,a,b⟩:=List.any_eq_true.1 e;exact List.any_eq_true.2 ⟨x,h.mem_iff.2 a,b⟩
 | false=>
  rw[List.any_eq_false]at e ⊢;exact fun x a=>e x (h.mem_iff.1 a)
theorem Ja:∀(l s t:List GOp),s.Perm t->s.Pairwise (fun a b=>iG a b=true)->(l.foldl Zq s).Perm (l.foldl EP t)/\(l.foldl Zq s).Pairwise (fun a b=>iG a b=true)
 | [],s,t,h,c=>⟨h,c⟩
 | y::l,s,t,h,c=>by
  simp only[List.foldl_cons];have e:=agU h (jl · y);unfold Zq EP;rw[e];cases d:t.any (jl · y)with
  | true=>exact Ja l s t h c
  | false=>
   refine Ja l _ _ ?_ (Iw y s c fun x f=>?_)
   ·exact (zW y s).trans ((h.cons y).trans (List.perm_append_singleton y t).symm)
   ·rw[d]at e;have:=List.any_eq_false.1 e x f;simpa using this
theorem Jc:∀(l t:List GOp),(l.foldl EP t).Sublist (t++l)
 | [],t=>by simp
 | y::l,t=>by
  simp only[List.foldl_cons];refine (Jc l _).trans ?_;unfold EP;cases t.any (jl · y)with
  | true=>exact List.Sublist.append_left (List.sublist_cons_self y l) t
  | false=>simp only[aa,a6,List.cons_append,List.nil_append];exact List.Sublist.refl _
def eF(a b:List GOp):List GOp:=(a++b).foldl Zq []
theorem wO(a b:List GOp):(eF a b).Perm ((a++b).foldl EP []):=(Ja _ _ _ (.refl _) .nil).1
theorem nJ(a b:List GOp):(eF a b).Pairwise (fun a b=>iG a b=true):=(Ja (a++b) [] [] (.refl _) .nil).2
theorem Qy(a b:List GOp):(eF a b).length<=a.length+b.length:=by
 rw[(wO a b).length_eq];have:=(Jc (a++b) []).length_le;simpa using this
theorem vz{a b:List GOp}{x:GOp}(h:x∈eF a b):x∈a\/x∈b:=by
 have:=(Jc (a++b) []).subset ((wO a b).mem_iff.1 h);simpa using this
theorem Ky{ρ:Type}{z:Option ρ}{v:ρ}(h:∃r,z=some r/\r=v):z=some v:=by
 obtain⟨r,e,rfl⟩:=h;exact e
theorem aan{α:Type}{s:List α}{j:Nat}{x:α}(h:s[j]?=some x)(p:α->Bool):(s.take (j+1)).any p=((s.take j).any p||p x):=by
 rw[take_snoc h,List.any_append];simp
theorem aeY(a:List GOp)(b:GOp)(h:a.length<lim):∃r,lC a b=some r/\decide (r>=0)=a.any (jl · b):=by
 unfold lC;refine jD (fun (_:Unit) (i:Nat)=>((a,b.time,b.by_,b.kind,b.seen,b.edit.kind,b.edit.pos,b.edit.cell.id,b.edit.cell.version,b.edit.cell.kind,b.edit.cell.name,b.edit.cell.code,b.edit.cell.n,b.src,b.dst,b.cell,b.version,b.reads,(i:Int)):(List GOp)×Int×Int×Int×(List Int)×Int×Int×Int×Int×Int×Str×Str×Int×Str×Str×Int×Int×(List aN)×Int)) a (fun i _=>(a.take i).any (jl · b)=false) (fun r=>decide (r>=0)=a.any (jl · b)) (fun i x s d e=>?_) (fun s e=>?_) () (by simp)
 ·simp only[dec_lt d,ab,au,d,zA,dX d h];have c:=aan d (jl · b);rw[e,Bool.false_or]at c;unfold jl at c;cases f:(x.time==b.time)with
  | false=>exact .inl ⟨(),rfl,by rw[f]at c;exact c⟩
  | true=>cases g:(x.by_==b.by_)with
   | false=>exact .inl ⟨(),rfl,by rw[f,g]at c;exact c⟩
   | true=>
    refine .inr ⟨_,rfl,?_⟩
    have:a.any (jl · b)=true:=List.any_eq_true.2 ⟨x,zG d,by simp[jl,f,g]⟩
    rw[this];simp
 ·refine⟨_,by simp only[aV,aa];rfl,?_⟩;rw[List.take_length]at e;rw[e];rfl
theorem V4(a b:GOp):oJ a b=some (iG a b):=sS a b
theorem Rh{σ α:Type}(f:σ->α->σ)(z:σ){xs:List α}{i:Nat}{x:α}(h:xs[i]?=some x):(xs.take (i+1)).foldl f z=f ((xs.take i).foldl f z) x:=by
 rw[take_snoc h,List.foldl_append];rfl
theorem Hg(a b:List GOp)(q:a.length<=1048576)(t:b.length<=1048576)(pa:∀x,x∈a->Fit B20 (.base .op) x)(pb:∀x,x∈b->Fit B20 (.base .op) x):mM a b=some (eF a b):=by
 unfold mM eF;rw[bD (by omega),zA,bD (by simp;omega),zA,List.nil_append];have hall:(a++b).length<=2097152:=by rw[aR];omega
 have pall:∀x,x∈a++b->Fit B20 (.base .op) x:=fun x d=>by
  rcases List.mem_append.1 d with d | d
  ·exact pa x d
  ·exact pb x d
 generalize a++b=all at *;have k:all.length<lim:=by show all.length<4611686018427387904;omega
 refine Ky (jD (fun (s:List GOp) (i:Nat)=>((s,all,(i:Int)):(List GOp)×(List GOp)×Int)) all (fun i s=>s.length<=i/\s=(all.take i).foldl Zq []) (fun (w:List GOp)=>w=all.foldl Zq []) (fun i y s g h=>.inl ?_) (fun s h=>?_) [] ⟨ar _,rfl⟩)
 ·obtain⟨u,es⟩:=h;have hi:=(zC.1 g).1;have py:=pall y (zG g);obtain⟨r,er,p⟩:=aeY s y (by show s.length<4611686018427387904;omega);have step:=Rh Zq [] g;rw[<- es]at step;unfold Zq at step;rw[<- p]at step;simp only[dec_lt g,ab,au,g,aw,zA,er,dX g k];cases n:decide (r>=0)with
  | true=>
   rw[n]at step;exact⟨s,rfl,by omega,step.symm⟩
  | false=>
   rw[n]at step;have put:∀j:Nat,j<=s.length->((cutAt s (j:Int)).bind fun c=>
         ((if (j:Int)=(c:Int)then some ()else none)).bind fun _=>
         (gd (0+(s.take c).length)).bind fun _=>
         (idx all (i:Int)).bind fun _=>
         (all[(i:Int).toNat]?).bind fun m=>
         (kW m).bind fun l=>
         (gd (([]++(s.take c)).length+[l].length)).bind fun _=>
         ((if (j:Int)=(c:Int)then some ()else none)).bind fun _=>
         (gd ((([]++(s.take c))++[l]).length+(s.drop c).length)).bind fun _=>
         some ((.inl ((([]++(s.take c))++[l])++(s.drop c),all,((i+1:Nat):Int))):((List GOp)×(List GOp)×Int)⊕(List GOp)))=some (.inl (s.take j++[y]++s.drop j,all,((i+1:Nat):Int))):=fun j o=>by
    simp only[ZV s j o,eq_self_iff_true,if_true,zA,au,g,aw,rJ y py];rw[bD (by simp;omega),zA,bD (by simp;omega),zA,bD (by simp;omega),zA];rfl
   simp only[aa];refine⟨wM y s,?_,by rw[(zW y s).length_eq];simp;omega,step.symm⟩;refine Ky (jD (fun (_:Unit) (j:Nat)=>((s,all,(i:Int),(j:Int)):(List GOp)×(List GOp)×Int×Int)) s (fun j _=>∀x,x∈s.take j->iG x y=true)
     (fun (r:((List GOp)×(List GOp)×Int)⊕(List GOp))=>r=.inl (wM y s,all,((i+1:Nat):Int))) (fun j x _ d h=>?_) (fun _ h=>?_) () (by simp))
   ·have o:=(zC.1 d).1;have pj:=put j (by omega);simp only[dec_lt d,ab,V4,dX d (show s.length<4611686018427387904 by omega),dX g k];rw[pj];simp only[au,d,g,aw,zA];cases e:iG x y with
    | true=>
     refine .inl ⟨(),rfl,fun z f=>?_⟩;rw[take_snoc d]at f;rcases List.mem_append.1 f with f | f
     ·exact h z f
     ·rw[List.mem_singleton.1 f];exact e
    | false=>
     refine .inr ⟨_,rfl,?_⟩;rw[Qc y s j (by omega) h (fun z f=>by rw[d]at f;cases f;exact e)]
   ·have pj:=put s.length (ar _);simp only[aV,aa,dX g k];rw[pj];refine⟨_,rfl,?_⟩;rw[Qc y s s.length (ar _) h (fun z f=>by rw[zJ (ar _)]at f;cases f)]
 ·simp only[aV,aa];refine⟨_,rfl,?_⟩;rw[h.2,List.take_length]
theorem Jh(a b:List GOp)(g:a.length<=1048576)(o:b.length<=1048576)(pa:∀x,x∈a->Fit B20 (.base .op) x)(pb:∀x,x∈b->Fit B20 (.base .op) x):qM a b=some (eF a b):=by
 have hfin:o6 ((a++b).foldl EP [])=some (eF a b):=by
  rw[A7];have m:=(Jc (a++b) []).length_le;rw[List.nil_append,aR]at m;show ((gd _).bind fun _=>_)=_
  rw[bD (by omega),zA];exact af6 UM (wO a b) (nJ a b)
 generalize eF a b=w at hfin;unfold qM;rw[bD (by omega),zA,bD (by simp;omega),zA,List.nil_append];have hall:(a++b).length<=2097152:=by rw[aR];omega
 have pall:∀x,x∈a++b->Fit B20 (.base .op) x:=fun x c=>by
  rcases List.mem_append.1 c with c | c
  ·exact pa x c
  ·exact pb x c
 generalize a++b=all at *;have h:all.length<lim:=by show all.length<4611686018427387904;omega
 refine Ky (jD (fun (s:List GOp) (i:Nat)=>((s,all,(all.length:Int),(i:Int)):(List GOp)×(List GOp)×Int×Int)) all (fun i s=>s.length<=i/\s=(all.take i).foldl EP []) (fun (r:List GOp)=>r=w) (fun i y s d k=>.inl ?_) (fun s k=>?_) [] ⟨ar _,rfl⟩)
 ·obtain⟨p,es⟩:=k;have hi:=(zC.1 d).1;have py:=pall y (zG d);have l:s.length<lim:=by show s.length<4611686018427387904;omega
  have step:=Rh EP [] d;rw[<- es]at step;refine⟨EP s y,?_,?_,step.symm⟩
  ·simp only[dec_lt d,ab,au,d,aw,zA];refine Ky (jD (fun (known:Bool) (j:Nat)=>((s,y.time,y.by_,y.kind,y.seen,y.edit.kind,y.edit.pos,y.edit.cell.id,y.edit.cell.version,y.edit.cell.kind,y.edit.cell.name,y.edit.cell.code,y.edit.cell.n,y.src,y.dst,y.cell,y.version,y.reads,known,all,(all.length:Int),(i:Int),(s.length:Int),(j:Int)):(List GOp)×Int×Int×Int×(List Int)×Int×Int×Int×Int×Int×Str×Str×Int×Str×Str×Int×Int×(List aN)×Bool×(List GOp)×Int×Int×Int×Int)) s
    (fun j known=>known=(s.take j).any (jl · y)) (fun (r:((List GOp)×(List GOp)×Int×Int)⊕(List GOp))=>r=.inl (EP s y,all,(all.length:Int),((i+1:Nat):Int))) (fun j x known c f=>.inl ?_) (fun known f=>?_) false (by simp))
   ·have g:=aan c (jl · y);rw[<- f]at g;refine⟨known||jl x y,?_,g.symm⟩;simp only[dec_lt c,ab,au,c,aw,zA,dX c l];unfold jl;cases known with
    | true=>rfl
    | false=>cases (x.time==y.time)<;>rfl
   ·rw[List.take_length]at f;simp only[aV,aa,dX d h];unfold EP;rw[<- f];cases known with
    | true=>exact⟨_,rfl,rfl⟩
    | false=>
     refine⟨_,?_,rfl⟩;change (((pR y).bind fun q=>_).bind _)=_;rw[Ar y py,zA,bD (by simp;omega),zA];rfl
  ·unfold EP;cases s.any (jl · y)with
   | true=>simp only[ab];omega
   | false=>simp;omega
 ·simp only[aV,aa];have e:=k.2;rw[List.take_length]at e;rw[e,hfin];exact⟨_,rfl,rfl⟩
end Go.Proofs.YtngjomkjlonfpaaGreat
/- Plain laws: a net of replicas; FnMergedOps. -/
namespace Go.Proofs.YtngjomkjlonfpaaGreat
open Go.Abs Go.Proofs
structure DR(l:List GOp):Prop where
 op:∀x,x∈l->opB x=true
 sorted:l.Pairwise (fun a b=>iG a b=true)
 len:(l.length:Int)<=60
theorem IB{α:Type}{R:α->α->Prop}(tr:∀x y z,R x y->R y z->R x z):∀l:List α,(∀(k:Nat) (x y:α),l[k]?=some x->l[k+1]?=some y->R x y)->l.Pairwise R
 | [],_=>.nil
 | [x],_=>List.pairwise_singleton _ _
 | x::y::r,h=>by
  have ih:=IB tr (y::r) fun k a b e f=>h (k+1) a b (by simpa using e) (by simpa using f)
  have c:=h 0 x y rfl rfl;refine List.pairwise_cons.2 ⟨fun z d=>?_,ih⟩;rcases a8.1 d with rfl | d
  ·exact c
  ·exact tr _ _ _ c ((List.pairwise_cons.1 ih).1 z d)
theorem ahk(l:List GOp):(iW (pK l) l 0&&decide ((l.length:Int)<=60))=true↔DR l:=by
 rw[zI,decide_eq_true_eq];constructor
 ·rintro⟨h,g⟩;have f:=fun k x c=>EM h k x c
  have d:∀(k:Nat) (x:GOp),l[k]?=some x->opB x=true:=fun k x c=>by
   have:=f k x c;unfold pK at this;rw[zI]at this;exact this.1
  refine⟨fun x c=>?_,IB (R:=fun a b=>iG a b=true) (fun x y z h n=>kU.trans _ _ _ h n) l fun k x y c i=>?_,g⟩
  ·obtain⟨k,j⟩:=List.getElem?_of_mem c;exact d k x j
  ·have:=f (k+1) y i;rw[Nat.zero_add]at this;unfold pK at this;rw[zI,Nat.add_sub_cancel,c,ae (show ((k+1:Nat):Int)>0 by omega)]at this;exact this.2
 ·rintro⟨d,o,g⟩;refine⟨aiq fun k x c=>?_,g⟩;unfold pK;rw[zI];refine⟨d x (zG c),?_⟩;by_cases m:(k:Int)>0
  ·have j:=(zC.1 c).1;have i:l[k-1]?=some (l[k-1]'(by omega)):=zF (by omega);rw[ae m,i];have:=List.pairwise_iff_getElem.1 o (k-1) k (by omega) j (by omega);obtain⟨_,e⟩:=zC.1 c;rw[e]at this;exact this
  ·rw[ac m];rfl
theorem al1{l:List GOp}(h:DR l)(a:∀x,x∈l->OpF x):aX B20 (.list (.base .op) l):=dY (by have:=h.len;omega) a
theorem Ox(l:List GOp)(h:aX B20 (.list (.base .op) l)):∃v,oM l=some v/\oP l=some v/\(v=true↔DR l):=by
 obtain⟨a,b⟩:=zo l h;exact⟨_,a,b,ahk l⟩
theorem lN(a:aB)(h:Fit B20 (.base .replica) a):∃v,dU a=some v/\(v=true->DR a.ops):=by
 rw[dF]at h;obtain⟨v,b,d,c⟩:=Ox a.ops h.2;unfold dU;simp only[fG,zA,b];cases (decide (0<=a.id)&&decide (a.id<=2))
 ·exact⟨_,rfl,fun h=>by cases h⟩
 ·exact⟨_,rfl,c.1⟩
theorem Vm(a:aB)(b:GOp)(g:Fit B20 (.base .replica) a)(h:Fit B20 (.base .op) b) :
  ∃w ok,P5 a b=some (w,ok)/\(w=a\/∃x,w=aB.mk a.id (a.ops++[x])/\x.by_=a.id/\OpF x/\DR (a.ops++[x])/\x.reads=b.reads):=by
 have fa:=g;rw[dF]at fa;have fb:=h;rw[xP]at fb;obtain⟨F,G,i,H,j,k,l,m,o,p⟩:=fb;have q:=dA fa.2;have f:=fD q;obtain⟨t,t1⟩:∃t,yc a.ops=some t:=⟨_,EW a.ops f⟩;obtain⟨w,r,I,s⟩:=X6 a f;obtain⟨v,y,z⟩:=lN a g;have A:∀x:GOp,gd (a.ops.length+[x].length)=some ():=fun x=>bD (by simp;omega)
 unfold P5;rw[rJ b h,t1,r,BU a g,y];simp only[zA,A];cases v with
 | false=>exact⟨a,false,rfl,.inl rfl⟩
 | true=>
  have B:=(z rfl).len;have fx:Fit B20 (.base .op) (GOp.mk (w64 (t+1)) a.id b.kind w b.edit b.src b.dst b.cell b.version b.reads):=by
   rw[xP];refine⟨ahx (aau _),fa.1,i,dY (show (w.length:Int)<=1048576 by omega) fun x c d C=>?_,j,k,l,m,o,p⟩;have e:d=.int .i64 x:=by simpa [Ty.cells,Base.cells] using C
   subst e;rcases s x c with rfl | ⟨n,rfl⟩
   ·exact ahx (Ou (by omega) (by omega))
   ·exact ahx (aau n)
  have fn:Fit B20 (.base .replica) (aB.mk a.id (a.ops++[GOp.mk (w64 (t+1)) a.id b.kind w b.edit b.src b.dst b.cell b.version b.reads])):=by
   rw[dF];refine⟨fa.1,dY (by simp;omega) fun x c=>?_⟩;rcases List.mem_append.1 c with c | c
   ·exact fa.2.aZ x c
   ·simp only[List.mem_singleton]at c;subst c;exact fx
  obtain⟨u,D,E⟩:=lN _ fn;simp only[aE,aa,D,zA];cases u with
  | false=>exact⟨a,false,rfl,.inl rfl⟩
  | true=>exact⟨_,true,rfl,.inr ⟨_,rfl,rfl,fx,E rfl,rfl⟩⟩
theorem agM(a b:aB)(d:Fit B20 (.base .replica) a)(e:Fit B20 (.base .replica) b) :
  ∃w ok,LH a b=some (w,ok)/\(w=a\/w=aB.mk a.id (eF a.ops b.ops)/\DR (eF a.ops b.ops)):=by
 have fa:=d;rw[dF]at fa;have fb:=e;rw[dF]at fb;have la:=dA fa.2;have lb:=dA fb.2;have f:=Hg a.ops b.ops (by omega) (by omega) (fun x c=>fa.2.aZ x c) (fun x c=>fb.2.aZ x c);have hlen:=Qy a.ops b.ops;obtain⟨v,g,i⟩:=lN a d;obtain⟨u,j,k⟩:=lN b e;unfold LH;rw[f];simp only[zA,g,j,BU a d];cases v with
 | false=>exact⟨a,false,rfl,.inl rfl⟩
 | true=>
  cases u with
  | false=>exact⟨a,false,rfl,.inl rfl⟩
  | true=>
   have n:=(i rfl).len;have o:=(k rfl).len;have fn:Fit B20 (.base .replica) (aB.mk a.id (eF a.ops b.ops)):=by
    rw[dF];refine⟨fa.1,dY (by show ((eF a.ops b.ops).length:Int)<=1048576;omega) fun x c=>?_⟩;rcases vz c with h | h
    ·exact fa.2.aZ x h
    ·exact fb.2.aZ x h
   obtain⟨z,l,m⟩:=lN _ fn;simp only[aE,aa,l,zA];cases z with
   | false=>exact⟨a,false,rfl,.inl rfl⟩
   | true=>exact⟨_,true,rfl,.inr ⟨rfl,m rfl⟩⟩
def aiw(U:List GOp):Prop:=∀x,x∈U->∀y,y∈U->jl x y=true->x=y
theorem I8{x y:GOp}(h:iG x y=true):jl x y=false/\jl y x=false:=by
 simp only[iG,jl,Bool.or_eq_true,zI,Bool.and_eq_false_iff,decide_eq_true_eq,beq_iff_eq,beq_eq_false_iff_ne]at *;omega
theorem MR:∀ {l:List GOp},l.Pairwise (fun a b=>iG a b=true)->aiw l
 | [],_=>fun x g=>by cases g
 | a::r,h=>by
  have i:=List.pairwise_cons.1 h;intro x g y j d;rcases a8.1 g with e | f
  ·rcases a8.1 j with e' | c
   ·rw[e,e']
   ·rw[e,(I8 (i.1 y c)).1]at d;cases d
  ·rcases a8.1 j with e' | c
   ·rw[e',(I8 (i.1 x f)).2]at d;cases d
   ·exact MR i.2 x f y c d
theorem FH:∀ {s t:List GOp},s.Pairwise (fun a b=>iG a b=true)->t.Pairwise (fun a b=>iG a b=true)->(∀x,x∈s↔x∈t)->s=t
 | [],[],_,_,_=>rfl
 | [],y::t,_,_,h=>absurd ((h y).2 (by simp)) (by simp)
 | x::s,[],_,_,h=>absurd ((h x).1 (by simp)) (by simp)
 | x::s,y::t,i,j,h=>by
  have d:=List.pairwise_cons.1 i;have f:=List.pairwise_cons.1 j;have e:x=y:=by
   rcases a8.1 ((h x).1 (by simp))with e | k
   ·exact e
   rcases a8.1 ((h y).2 (by simp))with e | l
   ·exact e.symm
   exact (UM _ _ (d.1 y l) (f.1 x k)).elim
  subst e;have irr:∀z,iG x z=true->z≠x:=fun z c e=>by
   rw[e,kU.irrefl]at c;cases c
  rw[FH d.2 f.2 fun z=>⟨fun c=>?_,fun c=>?_⟩]
  ·rcases a8.1 ((h z).1 (by simp[c]))with e | g
   ·exact absurd e (irr z (d.1 z c))
   ·exact g
  ·rcases a8.1 ((h z).2 (by simp[c]))with e | g
   ·exact absurd e (irr z (f.1 z c))
   ·exact g
theorem Zr{U:List GOp}(g:aiw U):∀(l t:List GOp),(∀x,x∈l->x∈U)->(∀x,x∈t->x∈U)->∀x,x∈t\/x∈l->x∈l.foldl EP t
 | [],t,_,_,x,h=>by
  rcases h with h | h
  ·exact h
  ·cases h
 | y::l,t,c,d,x,h=>by
  simp only[List.foldl_cons];refine Zr g l (EP t y) (fun z a=>c z (by simp[a])) (fun z a=>?_) x ?_
  ·unfold EP at a;cases b:t.any (jl · y)with
   | true=>rw[b]at a;exact d z a
   | false=>
    rw[b]at a;rcases List.mem_append.1 a with a | a
    ·exact d z a
    ·rw[List.mem_singleton.1 a];exact c y (by simp)
  ·unfold EP;cases b:t.any (jl · y)with
   | true=>
    obtain⟨z,a,f⟩:=List.any_eq_true.1 b;have e:=g z (d z a) y (c y (by simp)) f;rcases h with h | h
    ·exact .inl h
    ·rcases a8.1 h with rfl | h
     ·left;show x∈t;rw[<- e];exact a
     ·exact .inr h
   | false=>
    rcases h with h | h
    ·exact .inl (List.mem_append_left _ h)
    ·rcases a8.1 h with rfl | h
     ·left;show x∈t++[x];simp
     ·exact .inr h
theorem ou{U:List GOp}(d:aiw U){a b:List GOp}(e:∀x,x∈a->x∈U)(f:∀x,x∈b->x∈U)(x:GOp):x∈eF a b↔x∈a\/x∈b:=by
 refine⟨vz,fun h=>(wO a b).mem_iff.2 (Zr d (a++b) [] (fun z c=>?_) (fun z c=>by cases c) x (.inr (List.mem_append.2 h)))⟩;rcases List.mem_append.1 c with c | c
 ·exact e z c
 ·exact f z c
theorem VO{l:List GOp}(h:l.Pairwise (fun a b=>iG a b=true)):l.Nodup:=h.imp fun h e=>by
 rw[e,kU.irrefl]at h;cases h
theorem acU{α:Type}:∀ {l U:List α},l.Nodup->(∀x,x∈l->x∈U)->l.length<=U.length
 | [],U,_,_=>Nat.zero_le _
 | x::r,U,d,b=>by
  have a:=List.nodup_cons.1 d;obtain⟨s,t,e⟩:=List.append_of_mem (b x (by simp));subst e;have:=acU (l:=r) (U:=s++t) a.2 fun z c=>by
   have h:=b z (by simp[c]);rw[List.mem_append,a8]at h;rcases h with h | rfl | h
   ·exact List.mem_append_left _ h
   ·exact absurd c a.1
   ·exact List.mem_append_right _ h
  simp only[aR,List.length_cons]at this ⊢;omega
structure xU(U:List GOp)(rs:List aB)(i:Nat):Prop where
 n:rs.length=3
 id:∀(k:Nat) r,rs[k]?=some r->r.id=(k:Int)
 log:∀(k:Nat) r,rs[k]?=some r->DR r.ops
 sub:∀(k:Nat) r,rs[k]?=some r->∀x,x∈r.ops->x∈U
 own:∀x,x∈U->∀(k:Nat) r,rs[k]?=some r->x.by_=(k:Int)->x∈r.ops
 key:aiw U
 fit:∀x,x∈U->OpF x
 len:U.length<=i
 rd:∀x,x∈U->x.reads.length<=1000
 pre:∀(k:Nat) r,rs[k]?=some r->∀x,x∈r.ops->∀y,y∈U->y.by_=x.by_->iG y x=true->y∈r.ops
theorem set_self{α:Type}{l:List α}{k:Nat}{x:α}(h:l[k]?=some x):l.set k x=l:=by
 obtain⟨a,rfl⟩:=zC.1 h;exact List.set_getElem_self a
theorem xU.keep{U:List GOp}{rs:List aB}{i k:Nat}{r:aB}(h:xU U rs i)(a:rs[k]?=some r):xU U (rs.set k r) (i+1):=by
 rw[set_self a];exact { h with len:=Nat.le_succ_of_le h.len }
theorem uJ{α:Type}{l:List α}{k j:Nat}{x y z:α}(a:l[k]?=some x)(h:(l.set k z)[j]?=some y):(j=k/\y=z)\/(j≠k/\l[j]?=some y):=by
 have b:=(zC.1 a).1;rw[List.getElem?_set]at h;by_cases e:k=j
 ·subst e;rw[if_pos rfl,if_pos b]at h;exact .inl ⟨rfl,(aM h).symm⟩
 ·rw[if_neg e]at h;exact .inr ⟨fun e'=>e e'.symm,h⟩
theorem xU.pull{U:List GOp}{rs:List aB}{i k j:Nat}{r q:aB}(h:xU U rs i)(c:rs[k]?=some r)(f:rs[j]?=some q)(l:DR (eF r.ops q.ops)):xU U (rs.set k (aB.mk r.id (eF r.ops q.ops))) (i+1) where
 n:=by rw[List.length_set];exact h.n
 id:=fun m y a=>by
  rcases uJ c a with ⟨rfl,rfl⟩ | ⟨_,a⟩
  ·exact h.id _ r c
  ·exact h.id m y a
 log:=fun m y a=>by
  rcases uJ c a with ⟨rfl,rfl⟩ | ⟨_,a⟩
  ·exact l
  ·exact h.log m y a
 sub:=fun m y a x b=>by
  rcases uJ c a with ⟨rfl,rfl⟩ | ⟨_,a⟩
  ·rcases vz b with b | b
   ·exact h.sub _ r c x b
   ·exact h.sub _ q f x b
  ·exact h.sub m y a x b
 own:=fun x b m y a e=>by
  rcases uJ c a with ⟨rfl,rfl⟩ | ⟨_,a⟩
  ·exact (ou h.key (h.sub _ r c) (h.sub _ q f) x).2 (.inl (h.own x b _ r c e))
  ·exact h.own x b m y a e
 key:=h.key
 fit:=h.fit
 len:=Nat.le_succ_of_le h.len
 rd:=h.rd
 pre:=fun m y a x b z g e d=>by
  rcases uJ c a with ⟨rfl,rfl⟩ | ⟨_,a⟩
  ·refine (ou h.key (h.sub _ r c) (h.sub _ q f) z).2 ?_;rcases (ou h.key (h.sub _ r c) (h.sub _ q f) x).1 b with b | b
   ·exact .inl (h.pre _ r c x b z g e d)
   ·exact .inr (h.pre _ q f x b z g e d)
  ·exact h.pre m y a x b z g e d
theorem xU.add{U:List GOp}{rs:List aB}{i k:Nat}{r:aB}{x:GOp}(h:xU U rs i)(g:rs[k]?=some r)(p:x.by_=r.id)(F:OpF x)(B:DR (r.ops++[x]))(C:x.reads.length<=1000):xU (x::U) (rs.set k (aB.mk r.id (r.ops++[x]))) (i+1) where
 n:=by rw[List.length_set];exact h.n
 id:=fun m y f=>by
  rcases uJ g f with ⟨rfl,rfl⟩ | ⟨_,f⟩
  ·exact h.id _ r g
  ·exact h.id m y f
 log:=fun m y f=>by
  rcases uJ g f with ⟨rfl,rfl⟩ | ⟨_,f⟩
  ·exact B
  ·exact h.log m y f
 sub:=fun m y f z c=>by
  rcases uJ g f with ⟨rfl,rfl⟩ | ⟨_,f⟩
  ·rcases List.mem_append.1 c with c | c
   ·exact ao _ (h.sub _ r g z c)
   ·rw[List.mem_singleton.1 c];exact aq
  ·exact ao _ (h.sub m y f z c)
 own:=fun z c m y f d=>by
  rcases a8.1 c with rfl | c
  ·rcases uJ g f with ⟨rfl,rfl⟩ | ⟨j,f⟩
   ·show z∈r.ops++[z];simp
   ·have e:=h.id k r g;rw[p,e]at d;exact absurd (Int.ofNat.inj d).symm j
  ·rcases uJ g f with ⟨rfl,rfl⟩ | ⟨_,f⟩
   ·exact List.mem_append_left _ (h.own z c _ r g d)
   ·exact h.own z c m y f d
 key:=by
  have e:=h.id k r g;have new:∀y,y∈U->jl x y=false/\jl y x=false:=fun y f=>by
   by_cases d:y.by_=(k:Int)
   ·have l:=h.own y f k r g d;have:=(List.pairwise_append.1 B.sorted).2.2 y l x (by simp);exact⟨(I8 this).2,(I8 this).1⟩
   ·have j:¬x.by_=y.by_:=fun e'=>d (by rw[<- e',p,e])
    have t:¬y.by_=x.by_:=fun e'=>j e'.symm
    unfold jl;have G:(x.by_==y.by_)=false:=by simpa using j
    have H:(y.by_==x.by_)=false:=by simpa using t
    rw[G,H,Bool.and_false,Bool.and_false];exact⟨rfl,rfl⟩
  intro a I b p w;rcases a8.1 I with ea | A
  ·rcases a8.1 p with eb | q
   ·rw[ea,eb]
   ·rw[ea,(new b q).1]at w;cases w
  ·rcases a8.1 p with eb | q
   ·rw[eb,(new a A).2]at w;cases w
   ·exact h.key a A b q w
 fit:=fun z c=>by
  rcases a8.1 c with rfl | c
  ·exact F
  ·exact h.fit z c
 len:=by simp only[List.length_cons];have:=h.len;omega
 rd:=fun z c=>by
  rcases a8.1 c with rfl | c
  ·exact C
  ·exact h.rd z c
 pre:=fun m y f u s z c d o=>by
  have e:=h.id k r g;have last:∀v,v∈U->x.by_=v.by_->iG x v=false:=fun v J D=>by
   have E:=h.own v J k r g (by rw[<- D,p,e]);have:=(List.pairwise_append.1 B.sorted).2.2 v E x (by simp);cases K:iG x v with
   | false=>rfl
   | true=>have:=kU.trans _ _ _ this K;rw[kU.irrefl]at this;cases this
  rcases uJ g f with ⟨rfl,rfl⟩ | ⟨_,l⟩
  ·show z∈r.ops++[x]
   rcases a8.1 c with rfl | c
   ·simp
   ·rcases List.mem_append.1 s with s | s
    ·exact List.mem_append_left _ (h.pre _ r g u s z c d o)
    ·rw[List.mem_singleton.1 s]at d;exact List.mem_append_left _ (h.own z c _ r g (by rw[d,p,e]))
  ·rcases a8.1 c with rfl | c
   ·rw[last u (h.sub m y l u s) d]at o;cases o
   ·exact h.pre m y l u s z c d o
theorem xU.aeO{U:List GOp}{rs:List aB}{i k:Nat}{r:aB}(h:xU U rs i)(a:rs[k]?=some r):Fit B20 (.base .replica) r:=by
 rw[dF];have c:=(zC.1 a).1;have d:=h.n;exact⟨by rw[h.id k r a];exact ahx (Ou (by omega) (by omega)),al1 (h.log k r a) fun x b=>h.fit x (h.sub k r a x b)⟩
theorem xU.start:xU [] [aB.mk 0 [],aB.mk 1 [],aB.mk 2 []] 0:=by
 have b:∀ {P:Nat->aB->Prop},P 0 (aB.mk 0 [])->P 1 (aB.mk 1 [])->P 2 (aB.mk 2 [])->∀(k:Nat) r,[aB.mk 0 [],aB.mk 1 [],aB.mk 2 []][k]?=some r->P k r:=by
  intro P d e f k r h;match k,h with
  | 0,h=>cases h;exact d
  | 1,h=>cases h;exact e
  | 2,h=>cases h;exact f
  | k+3,h=>simp at h
 have c:DR []:=⟨fun x a=>(by cases a),.nil,by simp⟩;exact⟨rfl,b (P:=fun k r=>r.id=(k:Int)) rfl rfl rfl,b (P:=fun _ r=>DR r.ops) c c c,b (P:=fun _ r=>∀x,x∈r.ops->x∈([]:List GOp)) (fun _ h=>h) (fun _ h=>h) (fun _ h=>h),
  fun x a=>(by cases a),fun x a=>(by cases a),fun x a=>(by cases a),ar _,fun x a=>(by cases a),b (P:=fun _ r=>∀x,x∈r.ops->∀y,y∈([]:List GOp)->y.by_=x.by_->iG y x=true->y∈r.ops) (fun x a=>(by cases a)) (fun x a=>(by cases a)) (fun x a=>(by cases a))⟩
theorem OZ{n:Int}(a:0<=n)(b:n<=2):rE n=some (aB.mk n [],true):=by
 unfold rE;rw[fG,ae a,ae b];rfl
theorem amd{X β:Type}{z:Option (bC×β)}{Q:β->Prop}(h:Dr z Q):∃r,(z.bind fun r=>some (.inr r:X⊕(bC×β)))=some (.inr r)/\dB r.1/\Q r.2:=by
 obtain⟨a,o,b,k9,po⟩:=h;exact⟨(a,o),by rw[b];rfl,k9,po⟩
theorem ahe{c:bC}(h:dB c)(b:Int)(h0:0<=b)(h1:b<=20):Dr (Hl c b) fun rs=>∃U,xU U rs b.toNat:=by
 unfold Hl;have H:w64 (b+1)=b+1:=bM (by omega) (by omega);have reps:∀i:Nat,i<3->rE (i:Int)=some (aB.mk (i:Int) [],true):=fun i hi=>OZ (by omega) (by omega)
 refine Dr.of (mF (fun (s:List aB) (i:Nat)=>((c.b,c.i,c.h,b,s,(i:Int)):(List Int)×Int×Int×Int×(List aB)×Int)) 3
  (fun i s=>s=(List.range i).map fun (k:Nat)=>aB.mk (k:Int) []) (fun (r:bC×List aB)=>dB r.1/\∃U,xU U r.2 b.toNat) (fun i s hi g=>?_) (fun s g=>?_) [] rfl)
 ·have p:decide ((i:Int)<3)=true:=by simp;omega
  have u:w64 ((i:Int)+1)=((i+1:Nat):Int):=by rw[bM (by omega) (by omega)];omega
  refine⟨s++[aB.mk (i:Int) []],?_,by rw[g,List.range_succ,List.map_append];rfl⟩;have I:s.length=i:=by rw[g];simp
  simp only[p,ab,reps i hi,zA,bD (show s.length+[aB.mk (i:Int) []].length<=34359738368 by simp;omega),u]
 ·have g:s=[aB.mk 0 [],aB.mk 1 [],aB.mk 2 []]:=g;have p:decide (((3:Nat):Int)<3)=false:=rfl;simp only[p,aa];refine amd (Q:=fun rs=>∃U,xU U rs b.toNat) ?_;rw[H];refine Dr.bind (dJ (c:=bC.mk c.b c.i c.h) h (b+1)) fun J n K F=>?_
  have hn:=F.2 (by omega);obtain⟨m,rfl⟩:=xM F.1;refine Dr.of (mF (fun (z:bC×List aB) (i:Nat)=>((z.1.b,z.1.i,z.1.h,z.2,(m:Int),(i:Int)):(List Int)×Int×Int×(List aB)×Int×Int)) m
   (fun i z=>dB z.1/\∃U,xU U z.2 i) (fun (r:bC×List aB)=>dB r.1/\∃U,xU U r.2 b.toNat) (fun i z hi t=>?_) (fun z t=>?_) (J,s) ⟨K,[],by rw[g];exact xU.start⟩)
  ·obtain⟨⟨zc,rs⟩,l,U,a⟩:∃z':bC×List aB,dB z'.1/\∃U,xU U z'.2 i:=⟨z,t⟩;obtain⟨zc,rs⟩:=z;obtain⟨l,U,a⟩:=t;have l:dB zc:=l;have a:xU U rs i:=a;obtain⟨c2,y,L,M,N,O⟩:=gZ (c:=bC.mk zc.b zc.i zc.h) l 3;have P:=O (by omega);obtain⟨k,rfl⟩:=xM N;obtain⟨c3,R,S,G⟩:=Eg M 3;have T:=a.n;obtain⟨r,er,_,e⟩:=Ai (xs:=rs) (n:=k) (by omega);simp only[cnt_lt hi,ab,L,S,zA,er,aw,e,Nr hi (show m<=1048576 by omega)];cases R with
   | true=>
    obtain⟨v,d,A,k4,p4,V⟩:=gZ G 2;have W:=V (by omega);obtain⟨j,hj,ej⟩:∃j:Nat,j<3/\(w64 (w64 ((k:Int)+1)+d)).tmod 3=(j:Int):=by
     have X:k=0\/k=1\/k=2:=by omega
     have p:d=0\/d=1:=by omega
     rcases X with rfl | rfl | rfl<;>rcases p with rfl | rfl
     ·exact⟨1,by omega,by decide⟩
     ·exact⟨2,by omega,by decide⟩
     ·exact⟨2,by omega,by decide⟩
     ·exact⟨0,by omega,by decide⟩
     ·exact⟨0,by omega,by decide⟩
     ·exact⟨1,by omega,by decide⟩
    obtain⟨q,eq,_,B⟩:=Ai (xs:=rs) (n:=j) (by omega);obtain⟨w,ok,C,f⟩:=agM r q (a.aeO e) (a.aeO B);simp only[ab,A,zA,ej,eq,aw,B,C];refine⟨(v,rs.set k w),rfl,k4,?_⟩;rcases f with rfl | ⟨rfl,D⟩
    ·exact⟨U,a.keep e⟩
    ·exact⟨U,a.pull e B D⟩
   | false=>
    have hlog:=a.log k r e;obtain⟨v,o,A,k4,po⟩:=KE G r.ops (by have:=hlog.len;omega) 300 (by omega) (by omega) (fun x Y=>(Y1 (hlog.op x Y)).1.2) (k:Int) (by omega) (by omega);obtain⟨w,ok,C,f⟩:=Vm r o (a.aeO e) po.fit;simp only[aa,A,zA,C];refine⟨(v,rs.set k w),rfl,k4,?_⟩;rcases f with rfl | ⟨x,rfl,Z,hf,D,E⟩
    ·exact⟨U,a.keep e⟩
    ·exact⟨x::U,a.add e Z hf D (by rw[E];exact po.rd)⟩
  ·obtain⟨l,U,a⟩:=t;exact⟨(z.1,z.2),by simp only[aV,aa],l,U,{ a with len:=by have:=a.len;omega }⟩
theorem zx(l:List GOp)(d:l.length<=1000)(c:∀x,x∈l->OpF x):zy l l=some true:=by
 have b:l.length<lim:=by show l.length<4611686018427387904;omega
 unfold zy;rw[Gw,aa];refine Ky (jD (fun (_:Unit) (i:Nat)=>((l,l,(i:Int)):(List GOp)×(List GOp)×Int)) l (fun _ _=>True) (fun r=>r=true) (fun i x _ a _=>.inl ⟨(),?_,trivial⟩) (fun _ _=>?_) () trivial)
 ·simp only[dec_lt a,ab,au,a,zA,YF x x (c x (zG a)),Rn,aE,aa,dX a b]
 ·exact⟨_,by simp only[aV,aa],rfl⟩
end Go.Proofs.YtngjomkjlonfpaaGreat
/- Plain laws: an added operation; FnAddedOps. -/
namespace Go.Proofs.YtngjomkjlonfpaaGreat
open Go.Abs Go.Proofs
def Uy(l:List GOp):List Int:=[(lu l 0:Int),(lu l 1:Int),(lu l 2:Int)]
theorem aiK(a:aB)(h:(a.ops.length:Int)<=1048576):Og a=some (Uy a.ops):=by
 unfold Og;refine Ky (mF (fun (s:List Int) (i:Nat)=>((a.id,a.ops,s,(i:Int)):Int×(List GOp)×(List Int)×Int)) 3 (fun i s=>s=(List.range i).map fun (k:Nat)=>(lu a.ops (k:Int):Int)) (fun r=>r=Uy a.ops) (fun i s hi b=>?_) (fun s b=>?_) [] rfl)
 ·have c:decide ((i:Int)<3)=true:=by simp;omega
  have d:w64 ((i:Int)+1)=((i+1:Nat):Int):=by rw[bM (by omega) (by omega)];omega
  have e:s.length=i:=by rw[b];simp
  refine⟨s++[(lu a.ops (i:Int):Int)],?_,by rw[b,List.range_succ,List.map_append];rfl⟩;simp only[c,ab,Nc a.ops _ h,zA,d];rw[bD (by simp;omega),zA]
 ·have c:decide (((3:Nat):Int)<3)=false:=rfl;simp only[c,aa];exact⟨_,rfl,b⟩
theorem afF{c:bC}(h:dB c):Dr (Ho c) fun r=>Fit B20 (.base .replica) r/\r.ops.length<=1000/\∀o,o∈r.ops->o.reads.length<=1000:=by
 unfold Ho;refine Dr.bind (ahe h 10 (by omega) (by omega)) fun T rs H I=>?_
 obtain⟨U,g⟩:=I;refine Dr.bind (dJ H 3) fun V n J E=>?_
 have W:=E.2 (by omega);obtain⟨k,rfl⟩:=xM E.1;have K:=g.n;obtain⟨r,er,_,l⟩:=Ai (xs:=rs) (n:=k) (by omega);have fr:=g.aeO l;have lr:=g.log k r l;have rr:∀o,o∈r.ops->o.reads.length<=1000:=fun o L=>g.rd o (g.sub k r l o L)
 have hlen:=lr.len;have fr':=fr;rw[dF]at fr';simp only[er,zA,aw,if_true,l];refine Dr.bind (dJ J 12) fun M q p X=>Dr.bif (fun _=>?_) fun _=>Dr.bif (fun _=>?_) fun _=>Dr.bif (fun _=>?_) fun _=>.ret p ⟨fr,by omega,rr⟩
 ·refine Dr.bind (qG p _ (by simp)) fun j m k4 N=>.ret k4 ⟨?_,by show r.ops.length<=1000;omega,rr⟩
  rw[dF];simp at N;have om:I64 m:=i64 (by omega) (by omega);exact⟨om,fr'.2⟩
 ·refine Dr.bind (afG p) fun j o k4 fo=>Dr.gd (by simp;omega) (.ret k4 ⟨?_,by show (r.ops++[o]).length<=1000;simp;omega,fun x a=>(List.mem_append.1 a).elim (rr x) fun a=>by rw[List.mem_singleton.1 a];exact fo.2⟩)
  rw[dF];refine⟨fr'.1,dY (by simp;omega) fun x a=>?_⟩;rcases List.mem_append.1 a with a | a
  ·exact fr'.2.aZ x a
  ·rw[List.mem_singleton.1 a];exact fo.1
 ·have d:I64 0:=i64 (by omega) (by omega);have O:I64 2:=i64 (by omega) (by omega);have fo:Fit B20 (.base .op) (GOp.mk 0 0 2 [] (dM.mk 0 0 (ah.mk 0 0 0 [] [] 0)) [97] [120] 0 0 []):=
   pG.2 ⟨d,d,O,I9 (by simp) (fun x a=>(by cases a)),adU d d (Jz.2 ⟨d,d,d,FC (by simp),FC (by simp),d⟩),FC (by simp),FC (by simp),d,d,dY (by simp) fun x a=>(by cases a)⟩
  have fin:∀(j:bC) (s:aB),dB j->Fit B20 (.base .replica) s->(s.ops.length:Int)<=60->(∀o,o∈s.ops->o.reads.length<=1000)->∃z:bC×aB,(j,aB.mk s.id s.ops)=z/\dB z.1/\Fit B20 (.base .replica) z.2/\z.2.ops.length<=1000/\∀o,o∈z.2.ops->o.reads.length<=1000:=
   fun j s k4 fs ls rs=>⟨_,rfl,k4,fs,by show s.ops.length<=1000;omega,rs⟩
  refine Dr.of (adu (fun (z:(bC×aB)×Nat)=>((z.1.1.b,z.1.1.i,z.1.1.h,0,[],z.1.2.id,z.1.2.ops,(z.2:Int)):(List Int)×Int×Int×Int×(List GOp)×Int×(List GOp)×Int))
   (fun m z=>m+z.2=70/\dB z.1.1/\Fit B20 (.base .replica) z.1.2/\(z.1.2.ops.length:Int)<=60/\∀o,o∈z.1.2.ops->o.reads.length<=1000) (fun (z:bC×aB)=>dB z.1/\Fit B20 (.base .replica) z.2/\z.2.ops.length<=1000/\∀o,o∈z.2.ops->o.reads.length<=1000) (fun m z g=>?_) 70 ((M,r),0) ⟨rfl,p,fr,hlen,rr⟩)
  obtain⟨⟨zc,s⟩,i⟩:=z;obtain⟨F,kz,fs,ls,rs⟩:=g;have rs:∀o,o∈s.ops->o.reads.length<=1000:=rs;have F:m+i=70:=F;have kz:dB zc:=kz;have fs:Fit B20 (.base .replica) s:=fs;have ls:(s.ops.length:Int)<=60:=ls;by_cases hi:i<70
  case neg=>
   have t:decide ((i:Int)<70)=false:=by simp;omega
   simp only[t,aa]
   obtain⟨z,e,v⟩:=fin zc s kz fs ls rs
   exact .inr ⟨z,by rw[<- e],v⟩
  have t:decide ((i:Int)<70)=true:=by simp;omega
  obtain⟨A,y,P,B,_,_⟩:=gZ (c:=bC.mk zc.b zc.i zc.h) kz 3;simp only[t,ab,P,zA];cases Q:decide ((s.ops.length:Int)<w64 (59+y))with
  | false=>
   simp only[aa];obtain⟨z,e,v⟩:=fin A s B fs ls rs;exact .inr ⟨z,by rw[<- e],v⟩
  | true=>
   obtain⟨w,ok,ea,R⟩:=Vm s _ fs fo;have fw:Fit B20 (.base .replica) w/\(w.ops.length:Int)<=60/\∀o,o∈w.ops->o.reads.length<=1000:=by
    rcases R with rfl | ⟨x,rfl,_,fx,G,C⟩
    ·exact⟨fs,ls,rs⟩
    ·have fs':=fs;rw[dF]at fs';refine⟨?_,G.len,fun u f=>(List.mem_append.1 f).elim (rs u) fun f=>by rw[List.mem_singleton.1 f,C];simp⟩;rw[dF];refine⟨fs'.1,dY (by have:=G.len;show ((s.ops++[x]).length:Int)<=1048576;omega) fun u f=>?_⟩;rcases List.mem_append.1 f with f | f
     ·exact fs'.2.aZ u f
     ·rw[List.mem_singleton.1 f];exact fx
   simp only[ab,show aB.mk s.id s.ops=s from rfl,ea,zA];cases S:((w.ops.length:Int)==60)with
   | true=>
    simp only[ab];exact .inr ⟨(A,w),rfl,B,fw.1,by show w.ops.length<=1000;omega,fw.2.2⟩
   | false=>
    simp only[aa];have D:w64 ((i:Int)+1)=((i+1:Nat):Int):=by rw[bM (by omega) (by omega)];omega
    exact .inl ⟨((A,w),i+1),m-1,by omega,⟨by omega,B,fw.1,fw.2.1,fw.2.2⟩,by rw[D]⟩
theorem aeh(l:List GOp){k:Int}(a:0<=k)(b:k<=2):idx (Uy l) k=some (lu l k:Int):=by
 have:k=0\/k=1\/k=2:=by omega
 rcases this with rfl | rfl | rfl<;>rfl
end Go.Proofs.YtngjomkjlonfpaaGreat
/- Plain laws: where a name stands in a list of names. -/
namespace Go.Proofs.YtngjomkjlonfpaaGreat
open Go.Abs Go.Proofs
def posOf(s:Str):Nat->List Str->Int
 | _,[]=>-1
 | i,x::r=>if x==s then i else posOf s (i+1) r
theorem Kt(s:Str):∀(xs:List Str) (i:Nat),(posOf s i xs<0)↔xs.contains s=false
 | [],i=>by simp[posOf]
 | x::r,i=>by
  unfold posOf;by_cases h:x==s
  ·rw[if_pos h];have e:x=s:=by simpa using h
   subst e;constructor
   ·intro h;omega
   ·intro h;simp at h
  ·rw[if_neg h,Kt s r (i+1)];have e:¬x=s:=by simpa using h
   have a:¬s=x:=fun h=>e h.symm
   simp[a]
theorem wW(xs:List Str)(s:Str)(d:xs.length<=34359738368):kE xs s=some (posOf s 0 xs):=by
 unfold kE;have key:∀(ys:List Str) (i:Nat),La (fun (x:Str) i (_:Unit)=>if x==s then some (.inr (i:Int))else some (.inl ())) (fun _=>some (-1)) ys i ()=some (posOf s i ys):=by
  intro ys;induction ys with
  | nil=>intro i;rfl
  | cons y r ih=>
   intro i;unfold La posOf;by_cases h:y==s
   ·simp[h]
   ·simp only[h,if_false,aD];exact ih (i+1)
 rw[<- key xs 0];refine yO (fun (_:Unit) i=>(s,xs,(xs.length:Int),(i:Int))) xs _ _ ?_ ?_ ()
 ·intro i x u a;have hi:i<xs.length:=(zC.1 a).1;have b:w64 ((i:Int)+1)=((i+1:Nat):Int):=by rw[bM (by omega) (by omega)];rfl
  simp only[au,a,zA,b];have c:decide ((i:Int)<(xs.length:Int))=true:=by simp;omega
  rw[c];simp only[ab];by_cases h:x==s
  ·simp[h]
  ·simp[h]
 ·intro u;simp
end Go.Proofs.YtngjomkjlonfpaaGreat
