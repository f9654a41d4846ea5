import Derived.Test.YtapgeemjgckgaaaGreatDoorMarks
import Derived.Test.YtapgeemjgckgaaaGreatDoorPlain1
set_option linter.unusedSimpArgs false
set_option linter.unusedVariables false
/- Plain laws: tapes under a renaming (RenameTapes). -/
namespace Go.Proofs.YtapgeemjgckgaaaGreatDoor
noncomputable section
open Go.Abs Go.Proofs
theorem SzK.add{α:Type}{f:α->Int->Option Int}{P:Prop}{x:α}{c s:Nat}(h:SzK f P x c s)(n:Nat):SzK f P x (c+n) (s+n):=by
 intro l a b;obtain⟨r,e,p⟩:=h l a b;refine⟨r,e,?_⟩;rcases p with p | ⟨d,g,j,i⟩
 ·exact .inl p
 ·exact .inr ⟨d,g,by omega,i⟩
theorem sum_add{α:Type}(f:α->Nat)(n:Nat):∀xs:List α,(xs.map fun x=>f x+n).sum=(xs.map f).sum+n*xs.length
 | []=>rfl
 | x::xs=>by
  have:=sum_add f n xs;simp only[List.map_cons,List.sum_cons,List.length_cons,Nat.mul_succ];omega
theorem Zn(xs:List aB)(h:aT B47 (.list (.base .tape) xs)):SzK NY (aT B20 (.list (.base .tape) xs)) xs (lU xs+18*xs.length) 0:=by
 have:=nY (t:=.base .tape) (f:=fun e b=>OV e b) (g:=NY) (fun _ _=>rfl) (fun x=>dF x+18) 20 (by omega) xs (fun y _ a=>(afO y a).add 18) h;rw[sum_add]at this;exact this
theorem Zt(xs:List aj)(h:aT B47 (.list (.base .cell) xs)):SzK NZ (aT B20 (.list (.base .cell) xs)) xs (20*xs.length) 0:=by
 have:=nY (t:=.base .cell) (f:=fun e b=>O0 e b) (g:=NZ) (fun _ _=>rfl) (fun x=>iY x+14) 20 (by omega) xs (fun y _ k=>(afX y k).add 14) h;rw[sum_add]at this;intro l a c;obtain⟨r,e,p⟩:=this l a c;refine⟨r,e,?_⟩;rcases p with p | ⟨d,i,m,j⟩
 ·exact .inl p
 ·have n:6*xs.length<=(xs.map iY).sum:=by
   clear this m j e d i h a c;induction xs with
   | nil=>simp
   | cons x xs ih=>
    simp only[List.map_cons,List.sum_cons,List.length_cons];have:6<=iY x:=by unfold iY;omega
    omega
  exact .inr ⟨d,i,by omega,j⟩
theorem OX(x:au)(h:Fit B47 (.base .notebook) x):SzK zh (Fit B20 (.base .notebook) x) x (20*x.cells.length) 0:=by
 intro l d e;rw[gm]at h ⊢;unfold zh;obtain⟨b,c,a⟩:=Zt x.cells h l (by omega) (by omega);rw[c,zA];rcases a with a | ⟨f,g,i,a⟩
 ·exact⟨-1,by simp only[a,decide_true,ac],.inl (by omega)⟩
 rw[ae (show ¬b<0 by omega),aa];exact⟨b,rfl,.inr ⟨by omega,by omega,by omega,a⟩⟩
theorem RH{α X ρ:Type}{g:X->Option (X⊕ρ)}(pk:List α->Nat->X)(xs:List α)(p:α->Bool)(fin:Option ρ)
  (c:∀i x s,xs[i]?=some x->s.length<=i->g (pk s i)=some (.inl (pk (bif p x then s++[x]else s) (i+1))))
  (d:g (pk (xs.filter p) xs.length)=fin.bind fun r=>some (.inr r)):ak g (pk [] 0)=fin:=by
 have key:∀(n i:Nat),xs.length=i+n->ak g (pk ((xs.take i).filter p) i)=fin:=by
  intro n;induction n with
  | zero=>
   intro i hi;have:i=xs.length:=by omega
   subst this;rw[aI,List.take_length,d];cases fin<;>rfl
  | succ n ih=>
   intro i hi;have a:i<xs.length:=by omega
   have b:=zF a;have f:((xs.take i).filter p).length<=i:=Nat.le_trans (List.length_filter_le _ _) (by simp;omega);rw[aI,c i _ _ b f];have e:(xs.take (i+1)).filter p=bif p xs[i]then (xs.take i).filter p++[xs[i]]else (xs.take i).filter p:=by
    rw[take_snoc b,List.filter_append];cases h:p xs[i]<;>simp[h]
   simp only;rw[<- e];exact ih (i+1) (by omega)
 exact key xs.length 0 (by omega)
def notKey(c v:Int)(t:aB):Bool:=!uJ c v t
theorem VB(c v:Int)(t:aB):notKey c v t=bif (t.cell != c)then true else (t.version != v):=by
 unfold notKey uJ;rw[afo,afo];cases eqd t.cell c<;>cases eqd t.version v<;>rfl
theorem Pj(a:List aB)(b c:Int)(h:(a.length:Int)<=2097152):BB a b c=some (a.filter (notKey b c)):=by
 have e:a.length<4611686018427387904:=by omega
 refine RH (fun (s:List aB) (i:Nat)=>((a,b,c,s,(i:Int)):(List aB)×Int×Int×(List aB)×Int)) a (notKey b c) (some (a.filter (notKey b c))) (fun i x s d f=>?_) ?_
 ·have hi:=(zC.1 d).1;simp only[dec_lt d,ac,aA,d,zA,ig (show s.length+[x].length<=34359738368 by simp;omega),dn d e,VB];cases (x.cell != b)<;>cases (x.version != c)<;>rfl
 ·simp only[fE,aa];rfl
def jI(cs:List aj)(id:Int):Int:=match cs.find? (fun c=>c.id==id)with
 | some c=>c.version
 | none=>0
theorem oN{α:Type}(p:α->Bool):∀(xs:List α) (i:Nat),(eF p xs i = -1/\xs.find? p=none)\/∃(n:Nat) (x:α),eF p xs i=((i+n:Nat):Int)/\xs[n]?=some x/\xs.find? p=some x/\p x=true
 | [],i=>.inl ⟨rfl,rfl⟩
 | y::ys,i=>by
  unfold eF;rw[List.find?_cons];cases c:p y with
  | true=>exact .inr ⟨0,y,by simp,rfl,rfl,c⟩
  | false=>
   rcases oN p ys (i+1)with ⟨a,b⟩ | ⟨n,x,a,b,d,e⟩
   ·exact .inl ⟨by rw[aa,a],b⟩
   ·refine .inr ⟨n+1,x,?_,by simpa using b,d,e⟩;rw[aa,a];have:i+1+n=i+(n+1):=by omega
    rw[this]
theorem oH(a:au)(b:Int)(h:a.cells.length<lim)(e:(a.cells.find? fun c=>c.id==b).isSome=true):kX a b=some (jI a.cells b):=by
 unfold kX jI;rw[Fa a b h,zA];rcases oN (fun c:aj=>c.id==b) a.cells 0 with ⟨f,d⟩ | ⟨n,x,f,d,g,_⟩
 ·rw[d]at e;cases e
 ·rw[f,g,Nat.zero_add,aA,d];rfl
theorem pW(a:au)(b:Int)(h:a.cells.length<lim)(e:(a.cells.find? fun c=>c.id==b).isSome=true):nP a b=some (jI a.cells b):=by
 unfold nP jI;rw[FI a b h,zA];rcases oN (fun c:aj=>c.id==b) a.cells 0 with ⟨f,d⟩ | ⟨n,x,f,d,g,_⟩
 ·rw[d]at e;cases e
 ·rw[f,g,Nat.zero_add,aA,d];rfl
theorem aej{bs:List aj}{s:List Int}{c:aj}{v:Int}(h:v∈kG bs s c):v∈s\/(v=c.id/\(bs.find? fun d=>d.id==c.id).isSome=true):=by
 unfold kG at h;rcases oN (fun d:aj=>d.id==c.id) bs 0 with ⟨a,b⟩ | ⟨n,x,a,b,e,_⟩
 ·rw[a]at h;exact .inl h
 ·rw[a,Nat.zero_add,show decide (((n:Nat):Int)>=0)=true by simp,ac,aA,b]at h;simp only at h;cases hv:(x.version != c.version)with
  | false=>rw[hv]at h;exact .inl h
  | true=>
   rw[hv,ac]at h;rcases List.mem_append.1 h with h | h
   ·exact .inl h
   ·exact .inr ⟨by simpa using h,by rw[e];rfl⟩
theorem aeh(bs:List aj):∀(cs:List aj) (s:List Int) (v:Int),v∈cs.foldl (kG bs) s->v∈s\/((∃c,c∈cs/\v=c.id)/\(bs.find? fun d=>d.id==v).isSome=true)
 | [],s,v,h=>.inl h
 | c::cs,s,v,h=>by
  rcases aeh bs cs _ v h with h | ⟨⟨d,hd,e⟩,a⟩
  ·rcases aej h with h | ⟨e,b⟩
   ·exact .inl h
   ·exact .inr ⟨⟨c,ar,e⟩,e▸b⟩
  ·exact .inr ⟨⟨d,aq _ hd,e⟩,a⟩
theorem aei(bs:List aj):∀(cs:List aj) (s:List Int),(cs.foldl (kG bs) s).length<=s.length+cs.length
 | [],s=>by simp
 | c::cs,s=>by
  have a:=aei bs cs (kG bs s c);have b:=G6 bs s c;simp only[List.foldl_cons,List.length_cons];omega
def agr(l:List aB)(id fr to:Int):List aB:=Qe (l.filter (notKey id to)) id to (readsOf l id fr)
theorem RG(l:List aB)(c v:Int):(l.filter (notKey c v)).any (uJ c v)=false:=by
 rw[List.any_eq_false];intro x a;have:=(List.mem_filter.1 a).2;unfold notKey at this;simpa using this
theorem aiw{l:List aB}{id fr to:Int}{t:aB}(h:t∈agr l id fr to):t∈l\/t=aB.mk id to (fO [] (readsOf l id fr)):=by
 unfold agr Qe at h;rw[RG,aa]at h;split at h
 ·exact .inl (List.mem_filter.1 h).1
 ·rename_i r rs e;rcases aaL h with h | h
  ·exact .inr h
  ·exact .inl (List.mem_filter.1 h).1
theorem aix(l:List aB)(id fr to:Int):(agr l id fr to).length<=l.length+1:=
 Nat.le_trans (aiE _ _ _ _).2 (Nat.add_le_add_right (List.length_filter_le _ _) 1)
def Jt(N C:Nat)(l:List aB):Prop:=aT B20 (.list (.base .tape) l)/\l.length<=N/\∀t∈l,dF t<=C
theorem agH(b:List aN):oO (fO [] b)<=oO b:=by
 obtain⟨t,e,h⟩:=rG b [];rw[e,List.nil_append];exact akw mX h
theorem aeO{N C:Nat}{l:List aB}{id fr to:Int}(h:Jt N C l)(m:N+1<=1048576)(n:2<=C)(hi:aT B20 (.int .i64 id))(b:aT B20 (.int .i64 to)):Jt (N+1) C (agr l id fr to):=by
 obtain⟨c,o,d⟩:=h;have f:=MC l id fr c;have i:=dN f;have p:=aix l id fr to;have key:∀t∈agr l id fr to,Fit B20 (.base .tape) t/\dF t<=C:=by
  intro t a;rcases aiw a with a | rfl
  ·exact⟨c.cO t a,d t a⟩
  ·refine⟨yK.2 ⟨hi,b,adm (jR (by simp) fun x j=>by cases j) f (by simp;omega)⟩,?_⟩;rw[wJ];have g:=agH (readsOf l id fr);show 1+1+oO (fO [] (readsOf l id fr))<=C
   rcases MB l id fr with e | ⟨u,k,e⟩
   ·rw[e]at g ⊢;have:oO []=0:=rfl;omega
   ·rw[e]at g ⊢;have:=d u k;rw[wJ]at this;omega
 exact⟨jR (by omega) fun t b=>(key t b).1,by omega,fun t b=>(key t b).2⟩
theorem adZ{l:List aB}(h:aT B20 (.list (.base .tape) l))(p:aB->Bool):aT B20 (.list (.base .tape) (l.filter p)):=by
 have:=dN h;have:=List.length_filter_le p l;exact jR (by omega) fun x a=>h.cO x (List.mem_filter.1 a).1
theorem JB{L:Nat}{cs:List aj}(h:aT L (.list (.base .cell) cs))(id:Int):aT L (.int .i64 (jI cs id)):=by
 unfold jI;split
 ·rename_i c a;have:=h.cO c (List.mem_of_find?_eq_some a);rw[yL]at this;exact this.2.1
 ·exact .int _ _ (by decide)
theorem qV(a b:au)(d:(a.cells.length:Int)<=1048576)(e:(b.cells.length:Int)<=1048576) :
  jO a b=some (a.cells.foldl (kG b.cells) [])/\jU a b=some (a.cells.foldl (kG b.cells) []):=by
 obtain⟨w,f,g,h,c⟩:=EX a b d e;exact⟨by rw[f,c],by rw[g,c]⟩
def aac(A B:List aj)(l:List aB)(id:Int):List aB:=agr l id (jI A id) (jI B id)
theorem Qa(a:List aB)(A B:au)(j:aT B20 (.list (.base .tape) a))(m:Fit B20 (.base .notebook) A)(k:Fit B20 (.base .notebook) B)(O:a.length+A.cells.length<=1048576) :
  ∃w,ru a A B=some w/\rP a A B=some w/\∀C,2<=C->(∀t∈a,dF t<=C)->Jt 1048576 C w:=by
 rw[gm]at m k;have lA:=dN m;have lB:=dN k;have kA:A.cells.length<lim:=jk lA;have kB:B.cells.length<lim:=jk lB;obtain⟨G,H⟩:=qV A B lA lB;have hlen:=aei B.cells A.cells [];have hmem:∀v,v∈A.cells.foldl (kG B.cells) []->aT B20 (.int .i64 v)/\(A.cells.find? fun c=>c.id==v).isSome=true/\(B.cells.find? fun c=>c.id==v).isSome=true:=by
  intro v hv;rcases aeh B.cells A.cells [] v hv with h | ⟨⟨c,f,rfl⟩,h⟩
  ·cases h
  ·have:=m.cO c f;rw[yL]at this;exact⟨this.1,by rw[List.find?_isSome];exact⟨c,f,by simp⟩,h⟩
 unfold ru rP;rw[BD a j,xk a j,G,H];simp only[zA];generalize P:A.cells.foldl (kG B.cells) []=w at *;simp only[List.length_nil,Nat.zero_add]at hlen;have wl:w.length<4611686018427387904:=by omega
 have fin:∀C,2<=C->(∀t∈a,dF t<=C)->Jt 1048576 C (w.foldl (aac A.cells B.cells) a):=by
  intro C n f;have key:∀(w':List Int) (l:List aB) (N:Nat),(∀v,v∈w'->aT B20 (.int .i64 v))->Jt N C l->N+w'.length<=1048576->Jt 1048576 C (w'.foldl (aac A.cells B.cells) l):=by
   intro w';induction w' with
   | nil=>intro l N _ h o;exact⟨h.1,by have:=h.2.1;simp only[List.length_nil]at o;show l.length<=1048576;omega,h.2.2⟩
   | cons v w' ih=>
    intro l N hv h o;simp only[List.length_cons]at o;exact ih _ (N+1) (fun x g=>hv x (aq _ g)) (aeO h (by omega) n (hv v ar) (JB k v)) (by omega)
  exact key w a a.length (fun v hv=>(hmem v hv).1) ⟨j,aw _,f⟩ (by omega)
 have p:∃C,2<=C/\∀t∈a,dF t<=C:=by
  refine⟨2+(a.map dF).sum,by omega,?_⟩;have:∀(l:List aB) (t:aB),t∈l->dF t<=(l.map dF).sum:=by
   intro l;induction l with
   | nil=>intro t h;cases h
   | cons u l ih=>
    intro t h;simp only[List.map_cons,List.sum_cons];rcases ba.1 h with rfl | h
    ·omega
    ·have:=ih t h;omega
  intro t I;have:=this a t I;omega
 obtain⟨C,n,f⟩:=p;have step:∀(i:Nat) (v:Int) (l:List aB),w[i]?=some v->Jt (a.length+i) C l->Jt (a.length+(i+1)) C (aac A.cells B.cells l v)/\aT B20 (.list (.base .tape) (l.filter (notKey v (jI B.cells v)))) /\
   Bq (l.filter (notKey v (jI B.cells v))) v (jI B.cells v) (readsOf l v (jI A.cells v))=some (aac A.cells B.cells l v) /\
   CB (l.filter (notKey v (jI B.cells v))) v (jI B.cells v) (readsOf l v (jI A.cells v))=some (aac A.cells B.cells l v):=by
  intro i v l hv h;have hi:=(zC.1 hv).1;have b:=adZ h.1 (notKey v (jI B.cells v));have d:=MC l v (jI A.cells v) h.1;have J:=dN d;have z:(readsOf (l.filter (notKey v (jI B.cells v))) v (jI B.cells v)).length+(readsOf l v (jI A.cells v)).length<=1048576:=by
   rw[rF (RG l v (jI B.cells v))];simp;omega
  exact⟨aeO (N:=a.length+i) h (by omega) n (hmem v (zG hv)).1 (JB k v),b,Xb _ _ _ _ b d z,Yh _ _ _ _ b d z⟩
 have D:Jt (a.length+0) C a:=⟨j,aw _,f⟩;refine⟨w.foldl (aac A.cells B.cells) a,?_,?_,fin⟩
 ·refine (pG (fun (s:List aB) (i:Nat)=>((A.cells,B.cells,s,w,(i:Int)):(List aj)×(List aj)×(List aB)×(List Int)×Int)) w (aac A.cells B.cells) id (fun i s=>Jt (a.length+i) C s)
   (fun i v s hv h=>(step i v s hv h).1) (fun i v s hv h=>?_) (fun s _=>?_) a D).1
  ·obtain⟨K,L,E,F⟩:=step i v s hv h;obtain⟨M,r,y⟩:=hmem v (zG hv);have sl:=dN h.1;have e:=dn hv wl;simp only[dec_lt hv,ac,aA,hv,zA,az,oH (au.mk A.cells) v kA r,oH (au.mk B.cells) v kB y,acD s v _ h.1,Pj s v _ (show (s.length:Int)<=2097152 by omega),E,e]
  ·simp only[fE,aa];rfl
 ·refine (pG (fun (s:List aB) (i:Nat)=>((A.cells,B.cells,s,w,(w.length:Int),(i:Int)):(List aj)×(List aj)×(List aB)×(List Int)×Int×Int)) w (aac A.cells B.cells) id (fun i s=>Jt (a.length+i) C s)
   (fun i v s hv h=>(step i v s hv h).1) (fun i v s hv h=>?_) (fun s _=>?_) a D).1
  ·obtain⟨K,L,E,F⟩:=step i v s hv h;obtain⟨M,r,y⟩:=hmem v (zG hv);have sl:=dN h.1;have e:=dn hv wl;simp only[dec_lt hv,ac,aA,hv,zA,az,pW (au.mk B.cells) v kB y];refine RH (fun (u:List aB) (q:Nat)=>((A.cells,B.cells,s,v,jI B.cells v,u,w,(w.length:Int),(i:Int),s,(s.length:Int),(q:Int)):(List aj)×(List aj)×(List aB)×Int×Int×(List aB)×(List Int)×Int×Int×(List aB)×Int×Int)) s (notKey v (jI B.cells v)) _ (fun q x u g Q=>?_) ?_
   ·have R:=(zC.1 g).1;simp only[dec_lt g,ac,aA,g,zA,ig (show u.length+[x].length<=34359738368 by simp;omega),dn g (jk sl),VB];cases (x.cell != v)<;>cases (x.version != jI B.cells v)<;>rfl
   ·simp only[fE,aa,pW (au.mk A.cells) v kA r,zA,adH s v _ h.1,F,e]
  ·simp only[fE,aa];rfl
theorem aiz{N C:Nat}{l:List aB}(h:Jt N C l):lU l<=N*C:=by
 rw[Dp];exact Nat.le_trans (JK dF l C h.2.2) (Nat.mul_le_mul_right _ h.2.1)
end
end Go.Proofs.YtapgeemjgckgaaaGreatDoor
/- Plain laws: engines (copies, edits, BatchEngine). -/
namespace Go.Proofs.YtapgeemjgckgaaaGreatDoor
open Go.Abs Go.Proofs
theorem abx{l:List aO}(h:aT B20 (.list (.base .entry) l)){t:aO}(a:t∈l):aT B20 (.list (.base .int) t.inputs)/\Fit B20 (.base .val) t.value:=by
 have:=h.cO t a;rw[tu]at this;exact⟨this.2.2.2.1,this.2.2.2.2.1⟩
theorem Xg(x:aO)(a:aT B20 (.list (.base .int) x.inputs))(b:Fit B20 (.base .val) x.value):DT x=some x:=by
 have:=dN a;unfold DT;rw[ig (by omega),zA,bT,F5 _ b,zA,bT];rfl
theorem UI(x:dJ)(h:Fit B20 (.base .world) x):Ai x=some x:=by
 rw[tq]at h;have:=dN h.2.2;unfold Ai;rw[ig (by omega),zA];rfl
theorem ZN(x:dJ)(h:Fit B20 (.base .world) x):Ig x=some x:=by
 rw[tq]at h;have:=dN h.2.2;unfold Ig;rw[ig (by omega),zA];rfl
theorem Rq(a:bM)(h:Fit B20 (.base .engine) a):wE a=some a:=by
 rw[jF]at h;obtain⟨d,e,f,c,_⟩:=h;have m:=ai6 d;have l:=dN c;unfold wE;rw[apH _ (by omega),UI _ e,xk _ f];simp only[zA];refine qf (fun (s:List aO) (i:Nat)=>(([],0,0,[],[],[],0,0,0,a.notebook.cells,a.world.clock,a.world.seed,a.world.files,a.tapes,s,a.next,a.limit,a.work,a.entries,(a.entries.length:Int),(i:Int)) :
  (List aj)×Int×Int×(List dh)×(List aB)×(List aO)×Int×Int×Int×(List aj)×Int×Int×(List dh)×(List aB)×(List aO)×Int×Int×Int×(List aO)×Int×Int)) a.entries (some a) (fun i y b g=>?_) ?_
 ·have hi:=(zC.1 b).1;obtain⟨j,k⟩:=abx c (zG b);have:=dN j;have ey:aO.mk y.cell y.version y.stamp y.inputs y.value y.has=y:=rfl;simp only[dec_lt b,ac,aA,b,zA,ig (show 0+y.inputs.length<=34359738368 by omega),bT,xh _ k,List.nil_append,ey,
   ig (show (a.entries.take i).length+[y].length<=34359738368 by simp only[g,List.length_singleton];omega),dn b (jk l)]
 ·simp only[fE,aa];rfl
theorem ZK(a:bM)(h:Fit B20 (.base .engine) a):Ie a=some a:=by
 rw[jF]at h;obtain⟨d,e,f,c,_⟩:=h;have m:=ai6 d;have l:=dN c;unfold Ie;rw[copyS _ (by omega),ZN _ e,BD _ f];simp only[zA];refine qf (fun (s:List aO) (i:Nat)=>((a.notebook.cells,a.world.clock,a.world.seed,a.world.files,a.tapes,a.entries,a.next,a.limit,a.work,[],0,0,[],[],[],0,0,0,a.notebook.cells,a.world.clock,a.world.seed,a.world.files,a.tapes,s,a.next,a.limit,a.work,(i:Int)) :
  (List aj)×Int×Int×(List dh)×(List aB)×(List aO)×Int×Int×Int×(List aj)×Int×Int×(List dh)×(List aB)×(List aO)×Int×Int×Int×(List aj)×Int×Int×(List dh)×(List aB)×(List aO)×Int×Int×Int×Int)) a.entries (some a) (fun i y b g=>?_) ?_
 ·have hi:=(zC.1 b).1;obtain⟨j,k⟩:=abx c (zG b);simp only[dec_lt b,ac,aA,b,zA,dX,Xg y j k,
   ig (show (a.entries.take i).length+[y].length<=34359738368 by simp only[g,List.length_singleton];omega),dn b (jk l)]
 ·simp only[fE,aa];rfl
theorem ads{α σ ρ X Y:Type}{f:X->Option (X⊕ρ)}{g:Y->Option (Y⊕ρ)}(pk:σ->Nat->X)(qk:σ->Nat->Y)(xs:List α)(I:Nat->σ->Prop)(R:ρ->Prop)
  (j:∀i x s,xs[i]?=some x->I i s->∃s',f (pk s i)=some (.inl (pk s' (i+1)))/\g (qk s i)=some (.inl (qk s' (i+1)))/\I (i+1) s')
  (k:∀s,I xs.length s->∃r,f (pk s xs.length)=some (.inr r)/\g (qk s xs.length)=some (.inr r)/\R r) (s:σ) (l:I 0 s) :
  ∃r,ak f (pk s 0)=some r/\ak g (qk s 0)=some r/\R r:=by
 have key:∀(n i:Nat) (s:σ),xs.length=i+n->I i s->∃r,ak f (pk s i)=some r/\ak g (qk s i)=some r/\R r:=by
  intro n;induction n with
  | zero=>
   intro i s hi a;have:i=xs.length:=by omega
   subst this;obtain⟨r,b,c,d⟩:=k s a;exact⟨r,by rw[aI,b],by rw[aI,c],d⟩
  | succ n ih=>
   intro i s hi a;have e:i<xs.length:=by omega
   obtain⟨s',b,c,h⟩:=j i _ s (zF e) a;obtain⟨r,m,o,d⟩:=ih (i+1) s' (by omega) h;exact⟨r,by rw[aI,b];exact m,by rw[aI,c];exact o,d⟩
 exact key xs.length 0 s (by omega) l
end Go.Proofs.YtapgeemjgckgaaaGreatDoor
/- Plain laws: where a name stands in a list of names. -/
namespace Go.Proofs.YtapgeemjgckgaaaGreatDoor
open Go.Abs Go.Proofs
def posOf(s:Str):Nat->List Str->Int
 | _,[]=>-1
 | i,x::r=>if x==s then i else posOf s (i+1) r
theorem sV(s:Str):∀(xs:List Str) (i:Nat),(posOf s i xs<0)↔xs.contains s=false
 | [],i=>by simp[posOf]
 | x::r,i=>by
  unfold posOf;by_cases h:x==s
  ·rw[if_pos h];have e:x=s:=by simpa using h
   subst e;constructor
   ·intro h;omega
   ·intro h;simp at h
  ·rw[if_neg h,sV s r (i+1)];have e:¬x=s:=by simpa using h
   have a:¬s=x:=fun h=>e h.symm
   simp[a]
theorem wB(xs:List Str)(s:Str)(d:xs.length<=34359738368):mQ xs s=some (posOf s 0 xs):=by
 unfold mQ;have key:∀(ys:List Str) (i:Nat),KZ (fun (x:Str) i (_:Unit)=>if x==s then some (.inr (i:Int))else some (.inl ())) (fun _=>some (-1)) ys i ()=some (posOf s i ys):=by
  intro ys;induction ys with
  | nil=>intro i;rfl
  | cons y r ih=>
   intro i;unfold KZ posOf;by_cases h:y==s
   ·simp[h]
   ·simp only[h,if_false,aE];exact ih (i+1)
 rw[<- key xs 0];refine yh (fun (_:Unit) i=>(s,xs,(xs.length:Int),(i:Int))) xs _ _ ?_ ?_ ()
 ·intro i x u a;have hi:i<xs.length:=(zC.1 a).1;have b:w64 ((i:Int)+1)=((i+1:Nat):Int):=by rw[aX (by omega) (by omega)];rfl
  simp only[aA,a,zA,b];have c:decide ((i:Int)<(xs.length:Int))=true:=by simp;omega
  rw[c];simp only[ac];by_cases h:x==s
  ·simp[h]
  ·simp[h]
 ·intro u;simp
end Go.Proofs.YtapgeemjgckgaaaGreatDoor
/- Plain laws: valid names. -/
namespace Go.Proofs.YtapgeemjgckgaaaGreatDoor
open Go.Abs Go.Proofs
def ael(i:Nat)(c:UInt8):Bool:=decide (97<=c.toNat/\c.toNat<=122)||(decide (i≠0)&&decide (48<=c.toNat/\c.toNat<=57))
def kT:Nat->Str->Bool
 | _,[]=>true
 | i,c::r=>ael i c&&kT (i+1) r
theorem KY(fin:Bool):∀(xs:Str) (i:Nat),KZ (fun (c:UInt8) i (_:Unit)=>if ael i c=true then some (.inl ())else some (.inr false)) (fun _=>some fin) xs i ()=some (kT i xs&&fin)
 | [],i=>by simp[KZ,kT]
 | c::r,i=>by
  unfold KZ kT;cases h:ael i c with
  | true=>simp only[if_true];rw[KY fin r (i+1)];simp
  | false=>simp
theorem zZ(a b c:Int):kS a b c=some (decide (b<=a)&&decide (a<=c)):=by
 unfold kS;cases decide (b<=a)<;>simp
theorem SA(i:Nat)(c:UInt8):ael i c=if 97<=c.toNat/\c.toNat<=122 then true else if i=0 then false else if 48<=c.toNat/\c.toNat<=57 then true else false:=by
 unfold ael;by_cases a:97<=c.toNat/\c.toNat<=122
 ·simp[a]
 ·by_cases b:i=0
  ·simp[a,b]
  ·by_cases d:48<=c.toNat/\c.toNat<=57<;>simp[a,b,d]
theorem Af(a:Str)(r:a.length<=34359738368):Oe a=some (kT 0 a&&(decide (1<=(a.length:Int))&&decide ((a.length:Int)<=8))):=by
 rw[<- KY _ a 0];unfold Oe;refine yh (fun (_:Unit) i=>(a,(i:Int))) a _ _ ?_ ?_ ()
 ·intro i c u b;have hi:i<a.length:=(zC.1 b).1;have d:w64 ((i:Int)+1)=((i+1:Nat):Int):=by rw[aX (by omega) (by omega)];rfl
  have e:decide ((i:Int)<(a.length:Int))=true:=by simp;omega
  have f:((i:Int)==0)=decide (i=0):=by by_cases h:i=0<;>simp[h]
  simp only[aA,b,zA,d,e,f,ac,SA];have g:decide ((c.toNat:Int)>=97)=decide (97<=c.toNat):=decide_eq_decide.2 (by omega);have j:decide ((c.toNat:Int)<=122)=decide (c.toNat<=122):=decide_eq_decide.2 (by omega);have k:decide ((c.toNat:Int)<48) = !decide (48<=c.toNat):=by by_cases h:48<=c.toNat<;>simp[h]<;>omega
  have l:decide ((c.toNat:Int)>57) = !decide (c.toNat<=57):=by by_cases h:c.toNat<=57<;>simp[h]<;>omega
  rw[g,j,k,l];by_cases m:97<=c.toNat<;>by_cases n:c.toNat<=122<;>by_cases o:i=0<;>by_cases p:48<=c.toNat<;>by_cases q:c.toNat<=57<;>simp[m,n,o,p,q]
 ·intro u;simp[zZ]
theorem ZI(a:Str)(r:a.length<=34359738368):Ic a=some (kT 0 a&&decide ((a.length:Int)>0)):=by
 rw[<- KY _ a 0];unfold Ic;refine yh (fun (_:Unit) i=>(a,(i:Int))) a _ _ ?_ ?_ ()
 ·intro i c u b;have hi:i<a.length:=(zC.1 b).1;have d:w64 ((i:Int)+1)=((i+1:Nat):Int):=by rw[aX (by omega) (by omega)];rfl
  have e:decide ((i:Int)<(a.length:Int))=true:=by simp;omega
  have f:((i:Int)==0)=decide (i=0):=by by_cases h:i=0<;>simp[h]
  simp only[aA,b,zA,d,e,f,ac,SA];have g:decide ((c.toNat:Int)>=97)=decide (97<=c.toNat):=decide_eq_decide.2 (by omega);have j:decide ((c.toNat:Int)<=122)=decide (c.toNat<=122):=decide_eq_decide.2 (by omega);have k:decide ((c.toNat:Int)>=48)=decide (48<=c.toNat):=decide_eq_decide.2 (by omega);have l:decide ((c.toNat:Int)<=57)=decide (c.toNat<=57):=decide_eq_decide.2 (by omega);rw[g,j,k,l];by_cases m:97<=c.toNat<;>by_cases n:c.toNat<=122<;>by_cases o:i=0<;>by_cases p:48<=c.toNat<;>by_cases q:c.toNat<=57<;>simp[m,n,o,p,q]<;>omega
 ·intro u;simp
theorem o6(xs:List Str)(s:Str)(d:xs.length<=34359738368):nK xs s=some (xs.contains s):=by
 have key:∀(ys:List Str) (i:Nat),KZ (fun (x:Str) i (_:Unit)=>if x==s then some (.inr true)else some (.inl ())) (fun _=>some false) ys i ()=some (ys.contains s):=by
  intro ys;induction ys with
  | nil=>intro i;rfl
  | cons y r ih=>
   intro i;unfold KZ;by_cases h:y==s
   ·have e:y=s:=by simpa using h
    subst e;simp
   ·simp only[h,if_false,aE];rw[ih (i+1)];have e:¬s=y:=fun e=>h (by simp[e])
    simp[e]
 rw[<- key xs 0];unfold nK;refine yh (fun (_:Unit) i=>(xs,s,(i:Int))) xs _ _ ?_ ?_ ()
 ·intro i x u a;have hi:i<xs.length:=(zC.1 a).1;have b:w64 ((i:Int)+1)=((i+1:Nat):Int):=by rw[aX (by omega) (by omega)];rfl
  have c:decide ((i:Int)<(xs.length:Int))=true:=by simp;omega
  simp only[aA,a,zA,b,c,ac];by_cases h:x==s<;>simp[h]
 ·intro u;simp
theorem ajA(a:Str):fZ a=dU a:=rfl
theorem P8(a:Str):wz a=qy a:=by
 unfold qy vM;simp only[zA];rw[o6 _ _ (by decide)];simp only[zA];by_cases h:a∈([[108,101,116],[105,110],[105,102],[116,104,101,110],[101,108,115,101],[102,111,114],[100,111],[108,101,110],[115,117,109],[116,97,107,101],[115,107,105,112],[114,97,110,103,101],[110,116,104],[119,104,101,114,101],[107,101,101,112],[97,100,100],[103,114,111,117,112],[106,111,105,110],[99,111,108,117,109,110],[114,111,119,115],[99,108,111,99,107],[99,104,97,110,99,101],[102,105,108,101],[116,97,98,108,101]]:List Str)
 ·simp only[ba,List.not_mem_nil,or_false]at h;rcases h with rfl | rfl | rfl | rfl | rfl | rfl | rfl | rfl | rfl | rfl | rfl | rfl | rfl | rfl | rfl | rfl | rfl | rfl | rfl | rfl | rfl | rfl | rfl | rfl<;>rfl
 ·have b:([[108,101,116],[105,110],[105,102],[116,104,101,110],[101,108,115,101],[102,111,114],[100,111],[108,101,110],[115,117,109],[116,97,107,101],[115,107,105,112],[114,97,110,103,101],[110,116,104],[119,104,101,114,101],[107,101,101,112],[97,100,100],[103,114,111,117,112],[106,111,105,110],[99,111,108,117,109,110],[114,111,119,115],[99,108,111,99,107],[99,104,97,110,99,101],[102,105,108,101],[116,97,98,108,101]]:List Str).contains a=false:=by
   rw[Bool.eq_false_iff];intro hh;exact h (by simpa using hh)
  rw[b];simp only[ba,List.not_mem_nil,or_false,not_or]at h;unfold wz fZ;simp[Bool.cond_eq_ite,h]
theorem nX(a:Str)(b:a.length<=34359738368):bU a=bP a:=by
 unfold bU bP;rw[Af a b,ZI a b,P8];simp only[zA];cases kT 0 a with
 | false=>simp
 | true=>
  by_cases c:a.length=0
  ·simp[c]
  ·have d:decide (1<=(a.length:Int))=true:=by simp;omega
   have e:decide ((a.length:Int)>0)=true:=by simp;omega
   rw[d,e];simp only[Bool.true_and,ac]
theorem oD(a:Str)(b:a.length<=34359738368):∃v,bU a=some v:=by
 unfold bU;rw[Af a b,P8];unfold qy vM;simp only[zA];rw[o6 _ _ (by decide)];simp only[zA];cases (kT 0 a&&(decide (1<=(a.length:Int))&&decide ((a.length:Int)<=8)))with
 | false=>exact⟨_,rfl⟩
 | true=>exact⟨_,rfl⟩
end Go.Proofs.YtapgeemjgckgaaaGreatDoor
/- Plain laws: the text of a number. Plain laws: digits read as a number. -/
namespace Go.Proofs.YtapgeemjgckgaaaGreatDoor
open Go.Abs Go.Proofs
noncomputable def sF:Int×Bool×Str->Option ((Int×Bool×Str)⊕Str):=fun a=>
  bif (a.1 != 0)then
   bif (decide ((a.1.tmod 10)<0))then
    (gd ((bytesOf [w8 (w64 (48+(w64 (0-(a.1.tmod 10)))))]).length+a.2.2.length)).bind fun _=>
    some (.inl (w64 (a.1.tdiv 10),a.2.1,(bytesOf [w8 (w64 (48+(w64 (0-(a.1.tmod 10)))))])++a.2.2))
   else
    (gd ((bytesOf [w8 (w64 (48+(a.1.tmod 10)))]).length+a.2.2.length)).bind fun _=>
    some (.inl (w64 (a.1.tdiv 10),a.2.1,(bytesOf [w8 (w64 (48+(a.1.tmod 10)))])++a.2.2))
  else
   (
    bif a.2.1 then
     (gd ([45].length+a.2.2.length)).bind fun _=>
     some ([45]++a.2.2)
    else
     some (a.2.2)
   ).bind fun r=>some (.inr r)
theorem AL(a:Int):fU a=bif (a==0)then some [48]else ak sF (a,decide (a<0),[]):=rfl
theorem Sj(d:Nat)(h:d<10):bytesOf [w8 (w64 (48+(d:Int)))]=[UInt8.ofNat (48+d)]:=by
 have a:w64 (48+(d:Int))=((48+d:Nat):Int):=by
  simp only[w64,IntKind.wrap,IntKind.bits,IntKind.signed];simp;omega
 have b:w8 ((48+d:Nat):Int)=((48+d:Nat):Int):=by
  simp only[w8,IntKind.wrap,IntKind.bits,IntKind.signed];simp;omega
 rw[a,b];show [UInt8.ofNat ((48+d:Nat):Int).toNat]=_
 rw[az]
theorem ald:∀(n:Nat) (s:Str) (q:Nat),0<n->n<10 ^ q->n<9223372036854775808->s.length+q<=40->ak sF ((n:Int),false,s)=some (Go.Lib.decDigits n++s):=by
 intro n;induction n using Nat.strongRecOn with
 | _ n ih=>
  intro s q l a m o;have c:0<q:=by
   rcases Nat.eq_zero_or_pos q with h | h
   ·subst h;simp at a;omega
   ·exact h
  have d:((n:Int) != 0)=true:=by simp;omega
  have em:(n:Int).tmod 10=((n % 10:Nat):Int):=by
   rw[Int.tmod_eq_emod_of_nonneg (by omega)];omega
  have ed:(n:Int).tdiv 10=((n / 10:Nat):Int):=by
   rw[Int.tdiv_eq_ediv_of_nonneg (by omega)];omega
  have e:decide ((n:Int).tmod 10<0)=false:=by rw[em];simp;omega
  have f:w64 ((n:Int).tdiv 10)=((n / 10:Nat):Int):=by
   rw[ed];simp only[w64,IntKind.wrap,IntKind.bits,IntKind.signed];simp;omega
  have g:gd ([UInt8.ofNat (48+n % 10)].length+s.length)=some ():=by
   unfold gd;simp;omega
  have i:bytesOf [w8 (w64 (48+((n:Int).tmod 10)))]=[UInt8.ofNat (48+n % 10)]:=by rw[em];exact Sj _ (by omega)
  have hstep:sF ((n:Int),false,s)=some (.inl (((n / 10:Nat):Int),false,UInt8.ofNat (48+n % 10)::s)):=by
   unfold sF;simp only[d,e,ac,aa,i,g,zA,f];rfl
  rw[aI,hstep];simp only;by_cases b:n<10
  ·have j:n / 10=0:=by omega
   rw[j,aI];have:sF (((0:Nat):Int),false,UInt8.ofNat (48+n % 10)::s)=some (.inr (UInt8.ofNat (48+n % 10)::s)):=rfl;rw[this];rw[Go.Lib.decDigits,dif_pos b,Nat.mod_eq_of_lt b];rfl
  ·have k:10 ^ q=10 ^ (q-1)*10:=by rw[<- Nat.pow_succ];congr 1;omega
   rw[ih (n / 10) (by omega) (UInt8.ofNat (48+n % 10)::s) (q-1) (by omega) (by rw[k]at a;generalize 10 ^ (q-1)=p at a ⊢;omega) (by omega) (by simp;omega)];conv=>rhs;rw[Go.Lib.decDigits,dif_neg b]
   simp
theorem wW(n:Int)(a:0<=n)(d:n<9223372036854775808):fU n=some (Go.Lib.itoa n):=by
 rw[AL];obtain⟨m,rfl⟩:=Int.eq_ofNat_of_zero_le a;have hi:Go.Lib.itoa (m:Int)=Go.Lib.decDigits m:=by unfold Go.Lib.itoa;rw[if_neg (by omega)];rfl
 by_cases b:m=0
 ·subst b;rw[hi,Go.Lib.decDigits,dif_pos (by decide)];rfl
 ·have e:((m:Int)==0)=false:=by simp;omega
  have c:decide ((m:Int)<0)=false:=by simp
  rw[e,c,aa,ald m [] 19 (by omega) (by have:(10:Nat) ^ 19=10000000000000000000:=rfl;omega) (by omega) (by decide),hi];simp
def jm(c:UInt8):Prop:=48<=c.toNat/\c.toNat<=57
def aY(acc:Nat)(t:Str):Nat:=t.foldl (fun a c=>a*10+(c.toNat-48)) acc
theorem tN:∀(t:Str) (acc:Nat),(∀c,c∈t->jm c)->aY acc t<(acc+1)*10 ^ t.length
 | [],acc,_=>by simp[aY]
 | c::r,acc,h=>by
  have a:=h c (by simp);have:=tN r (acc*10+(c.toNat-48)) (fun d hd=>h d (by simp[hd]));have e:aY acc (c::r)=aY (acc*10+(c.toNat-48)) r:=rfl;rw[e];refine aD this ?_;have b:10 ^ (c::r).length=10*10 ^ r.length:=by rw[List.length_cons,Nat.pow_succ,Nat.mul_comm]
  rw[b,<- Nat.mul_assoc];refine Nat.mul_le_mul_right _ ?_;unfold jm at a;omega
theorem wY:∀(t:Str) (acc:Nat),(∀c,c∈t->jm c)->(acc+1)*10 ^ t.length<=1000000000000000->Go.Lib.parseUint10 acc t=.ok (aY acc t)
 | [],acc,_,_=>rfl
 | c::r,acc,h,a=>by
  have b:=h c (by simp);unfold jm at b;have e:10 ^ (c::r).length=10*10 ^ r.length:=by rw[List.length_cons,Nat.pow_succ,Nat.mul_comm]
  rw[e,<- Nat.mul_assoc]at a;have f:1<=10 ^ r.length:=Nat.one_le_pow _ _ (by decide);have hacc:(acc+1)*10<=1000000000000000:=by
   refine Nat.le_trans ?_ a;exact Nat.le_mul_of_pos_right _ f
  unfold Go.Lib.parseUint10;rw[if_pos b,if_neg (by omega),if_neg (by omega)];rw[wY r (acc*10+(c.toNat-48)) (fun d hd=>h d (by simp[hd])) ?_]
  ·rfl
  ·refine Nat.le_trans ?_ a;exact Nat.mul_le_mul_right _ (by omega)
theorem abV(t:Str)(h:∀c,c∈t->jm c)(a:t≠[])(b:t.length<=12):Go.Lib.atoiAll t=.ok (aY 0 t:Int):=by
 obtain⟨c,r,rfl⟩:=List.exists_cons_of_ne_nil a;have d:=h c (by simp);unfold jm at d;have e:10 ^ (c::r).length<=10 ^ 12:=Nat.pow_le_pow_right (by decide) b;have hv:=tN (c::r) 0 h;unfold Go.Lib.atoiAll;simp only;rw[if_neg (by omega)];unfold Go.Lib.parseMag;rw[if_neg a,wY (c::r) 0 h (by omega)];simp only;rw[if_neg (by omega),if_neg (by omega),if_neg (by omega)]
def ah2(s:Int)(c:UInt8):Int:=w64 (w64 (10*s)+w64 (w8 ((c.toNat:Int)-48)))
theorem ah1(n:Nat)(c:UInt8)(a:jm c)(f:n<=1000000000000000):ah2 (n:Int) c=((n*10+(c.toNat-48):Nat):Int):=by
 unfold jm at a;have b:w64 (10*(n:Int))=((10*n:Nat):Int):=by
  simp only[w64,IntKind.wrap,IntKind.bits,IntKind.signed];simp;omega
 have d:w8 ((c.toNat:Int)-48)=((c.toNat-48:Nat):Int):=by
  simp only[w8,IntKind.wrap,IntKind.bits,IntKind.signed];simp;omega
 have e:w64 ((c.toNat-48:Nat):Int)=((c.toNat-48:Nat):Int):=by
  simp only[w64,IntKind.wrap,IntKind.bits,IntKind.signed];simp;omega
 unfold ah2;rw[b,d,e];simp only[w64,IntKind.wrap,IntKind.bits,IntKind.signed];simp;omega
theorem abg{ρ:Type}(fin:Int->Option ρ):∀(ys:Str) (i n:Nat),(∀c,c∈ys->jm c)->(n+1)*10 ^ ys.length<=1000000000000000 ->
  KZ (fun (c:UInt8) _ (s:Int)=>some (.inl (ah2 s c))) fin ys i (n:Int)=fin (aY n ys:Int)
 | [],i,n,_,_=>rfl
 | c::r,i,n,h,a=>by
  have b:=h c (by simp);have e:10 ^ (c::r).length=10*10 ^ r.length:=by rw[List.length_cons,Nat.pow_succ,Nat.mul_comm]
  rw[e,<- Nat.mul_assoc]at a;have f:1<=10 ^ r.length:=Nat.one_le_pow _ _ (by decide);have hacc:(n+1)*10<=1000000000000000:=Nat.le_trans (Nat.le_mul_of_pos_right _ f) a;unfold KZ;rw[ah1 n c b (by omega)];simp only;have:=abg fin r (i+1) (n*10+(c.toNat-48)) (fun d hd=>h d (by simp[hd])) (Nat.le_trans (Nat.mul_le_mul_right _ (by unfold jm at b;omega)) a);rw[this];rfl
theorem af8(t:Str)(h:∀c,c∈t->jm c)(o:t≠[])(C:t.length<=1000):DU t 12=some (if t.length<=12/\Go.Lib.itoa (aY 0 t:Int)=t then ((aY 0 t:Int),true)else (0,false)):=by
 have a:0<t.length:=List.length_pos_iff.2 o;have e:∃c,t[0]?=some c/\jm c:=⟨t[0],zF a,h _ (List.getElem_mem a)⟩;obtain⟨c,p,f⟩:=e;have b:=f;unfold jm at b;have r:decide ((t.length:Int)>0)=true:=by simp;omega
 have u:decide ((t.length:Int)<1)=false:=by simp;omega
 have v:((c.toNat:Int)==45)=false:=by simp;omega
 have g:idx t 0=some c:=by have:=aA t 0;rw[p]at this;exact this
 unfold DU;rw[r,u];simp only[ac,aa,g,zA,v];by_cases j:t.length<=12
 ·have k:decide ((t.length:Int)>12)=false:=by simp;omega
  rw[k];simp only[aa];have D:10 ^ t.length<=10 ^ 12:=Nat.pow_le_pow_right (by decide) j;have hv:=tN t 0 h;have key:=abg (fun s=>(fU s).bind fun l=>bif (!(l==t))then some ((0:Int),false)else some (s,true)) t 0 0 h (by omega);have w:=wW (aY 0 t:Int) (by omega) (by omega);simp only[w,zA]at key;have fin:(bif (!(Go.Lib.itoa (aY 0 t:Int)==t))then some ((0:Int),false)else some ((aY 0 t:Int),true))=some (if t.length<=12/\Go.Lib.itoa (aY 0 t:Int)=t then ((aY 0 t:Int),true)else (0,false)):=by
   by_cases d:Go.Lib.itoa (aY 0 t:Int)=t
   ·rw[if_pos ⟨j,d⟩];have:(Go.Lib.itoa (aY 0 t:Int)==t)=true:=by simp[d]
    rw[this];rfl
   ·rw[if_neg (fun q=>d q.2)];have:(Go.Lib.itoa (aY 0 t:Int)==t)=false:=by simpa using d
    rw[this];rfl
  rw[<- fin,<- key];refine yh (fun (s:Int) i=>(t,false,t,s,(i:Int))) t _ _ ?_ ?_ 0
  ·intro i x s m;have hi:i<t.length:=(zC.1 m).1;have n:=h x (zG m);unfold jm at n;have y:w64 ((i:Int)+1)=((i+1:Nat):Int):=by rw[aX (by omega) (by omega)];rfl
   have z:decide ((i:Int)<(t.length:Int))=true:=by simp;omega
   have A:decide ((x.toNat:Int)<48)=false:=by simp;omega
   have B:decide ((x.toNat:Int)>57)=false:=by simp;omega
   simp only[aA,m,zA,y,z,A,B,ac,aa];rfl
  ·intro s;simp
 ·have k:decide ((t.length:Int)>12)=true:=by simp;omega
  rw[k,if_neg (fun q=>j q.1)];rfl
theorem FN:∀(q n:Nat),n<10 ^ q->(Go.Lib.decDigits n).length<=max q 1
 | 0,n,h=>by
  have:n=0:=by simpa using h
  subst this;rw[Go.Lib.decDigits,dif_pos (by decide)];simp
 | q+1,n,h=>by
  rw[Go.Lib.decDigits];by_cases b:n<10
  ·rw[dif_pos b];simp
  ·rw[dif_neg b];have c:10 ^ (q+1)=10 ^ q*10:=Nat.pow_succ 10 q;have d:0<q:=by
    rcases Nat.eq_zero_or_pos q with a | a
    ·subst a;simp at h;omega
    ·exact a
   have:=FN q (n / 10) (by rw[c]at h;generalize 10 ^ q=p at h ⊢;omega);simp only[a6,List.length_cons,List.length_nil];omega
theorem agC(t:Str)(h:∀c,c∈t->jm c)(g:t≠[])(j:t.length<=1000):∃(vi vs:Int) (ok oks:Bool),mG t 0 1000000000=some (vi,ok)/\jf t=some (vs,oks)/\ok=(oks&&decide (vs<=1000000000))/\(ok=true->vi=vs):=by
 have e:gd t.length=some ():=by unfold gd;simp;omega
 have k:jf t=some (if t.length<=12/\Go.Lib.itoa (aY 0 t:Int)=t then ((aY 0 t:Int),true)else (0,false)):=by
  unfold jf;rw[af8 t h g j];rfl
 rw[k];have hi:mG t 0 1000000000=some (match Go.Lib.atoiAll t with
  | .ok v=>if v<0\/1000000000<v\/Go.Lib.itoa v≠t then (0,false)else (v,true)
  | _=>(0,false)):=by
  unfold mG qC
  rw[e];rfl
 rw[hi];by_cases d:t.length<=12
 ·rw[abV t h g d];simp only;by_cases a:Go.Lib.itoa (aY 0 t:Int)=t
  ·have f:(if t.length<=12/\Go.Lib.itoa (aY 0 t:Int)=t then ((aY 0 t:Int),true)else (0,false))=((aY 0 t:Int),true):=if_pos ⟨d,a⟩;rw[f];by_cases hv:(aY 0 t:Int)<=1000000000
   ·have b:(if (aY 0 t:Int)<0\/1000000000<(aY 0 t:Int)\/Go.Lib.itoa (aY 0 t:Int)≠t then ((0:Int),false)else ((aY 0 t:Int),true))=((aY 0 t:Int),true):=if_neg (fun q=>by
     rcases q with q | q | q
     ·omega
     ·omega
     ·exact q a)
    rw[b];exact⟨_,_,_,_,rfl,rfl,by simp[hv],fun _=>rfl⟩
   ·have b:(if (aY 0 t:Int)<0\/1000000000<(aY 0 t:Int)\/Go.Lib.itoa (aY 0 t:Int)≠t then ((0:Int),false)else ((aY 0 t:Int),true))=(0,false):=if_pos (.inr (.inl (by omega)));rw[b];exact⟨_,_,_,_,rfl,rfl,by simp[hv],fun q=>by cases q⟩
  ·have f:(if t.length<=12/\Go.Lib.itoa (aY 0 t:Int)=t then ((aY 0 t:Int),true)else (0,false))=(0,false):=if_neg (fun q=>a q.2);have b:(if (aY 0 t:Int)<0\/1000000000<(aY 0 t:Int)\/Go.Lib.itoa (aY 0 t:Int)≠t then ((0:Int),false)else ((aY 0 t:Int),true))=(0,false):=if_pos (.inr (.inr a));rw[f,b];exact⟨_,_,_,_,rfl,rfl,rfl,fun q=>by cases q⟩
 ·rw[if_neg (fun q=>d q.1)];have l:(match Go.Lib.atoiAll t with
   | .ok v=>if v<0\/1000000000<v\/Go.Lib.itoa v≠t then ((0:Int),false)else (v,true)
   | _=>(0,false))=(0,false):=by
   cases hv:Go.Lib.atoiAll t with
   | ok v=>
    simp only
    rw[if_pos]
    by_cases i:v<0
    ·exact .inl i
    by_cases m:1000000000<v
    ·exact .inr (.inl m)
    refine .inr (.inr fun a=>d ?_)
    have hi:Go.Lib.itoa v=Go.Lib.decDigits v.toNat:=by unfold Go.Lib.itoa;rw[if_neg i]
    rw[<- a,hi]
    have:=FN 10 v.toNat (by omega)
    omega
   | range=>rfl
   | _=>rfl
  rw[l];exact⟨_,_,_,_,rfl,rfl,rfl,fun q=>by cases q⟩
end Go.Proofs.YtapgeemjgckgaaaGreatDoor
